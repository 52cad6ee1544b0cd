/- Facts on the types of the program, for walks over data. -/
import Derived.Test.YtbjnbhlpibadnaaE13
import Derived.Test.YtbjnbhlpibadnaaProg
namespace Go.Proofs.Ytbjnbhlpibadnaa.ty
open Go Go.Proofs Go.Proofs.Ytbjnbhlpibadnaa

theorem kd1 : kindA Try.prog 1 = some none := by kernel_rfl
theorem co1 : Try.prog.cellsOf 1 = 1 := by kernel_rfl
theorem nz1 : Try.prog.cellsOf 1 ≠ 0 := by rw [co1]; decide
theorem is1 : (Try.prog.underlying 1).isSome = true := by kernel_rfl
theorem inf1 : (Try.prog.info? 1).isSome = true := by kernel_rfl
theorem kd2 : kindA Try.prog 2 = some none := by kernel_rfl
theorem co2 : Try.prog.cellsOf 2 = 1 := by kernel_rfl
theorem nz2 : Try.prog.cellsOf 2 ≠ 0 := by rw [co2]; decide
theorem is2 : (Try.prog.underlying 2).isSome = true := by kernel_rfl
theorem inf2 : (Try.prog.info? 2).isSome = true := by kernel_rfl
theorem ik2 : intKind Try.prog 2 = some .i64 := by kernel_rfl
theorem ze2 : zeroA Try.prog 2 = some [.int .i64 0] := by kernel_rfl
theorem kd3 : kindA Try.prog 3 = some none := by kernel_rfl
theorem co3 : Try.prog.cellsOf 3 = 1 := by kernel_rfl
theorem nz3 : Try.prog.cellsOf 3 ≠ 0 := by rw [co3]; decide
theorem is3 : (Try.prog.underlying 3).isSome = true := by kernel_rfl
theorem inf3 : (Try.prog.info? 3).isSome = true := by kernel_rfl
theorem ik3 : intKind Try.prog 3 = some .i64 := by kernel_rfl
theorem ze3 : zeroA Try.prog 3 = some [.int .i64 0] := by kernel_rfl
theorem kd4 : kindA Try.prog 4 = some none := by kernel_rfl
theorem co4 : Try.prog.cellsOf 4 = 1 := by kernel_rfl
theorem nz4 : Try.prog.cellsOf 4 ≠ 0 := by rw [co4]; decide
theorem is4 : (Try.prog.underlying 4).isSome = true := by kernel_rfl
theorem inf4 : (Try.prog.info? 4).isSome = true := by kernel_rfl
theorem ze4 : zeroA Try.prog 4 = some [.bool false] := by kernel_rfl
theorem kd5 : kindA Try.prog 5 = some none := by kernel_rfl
theorem co5 : Try.prog.cellsOf 5 = 1 := by kernel_rfl
theorem nz5 : Try.prog.cellsOf 5 ≠ 0 := by rw [co5]; decide
theorem is5 : (Try.prog.underlying 5).isSome = true := by kernel_rfl
theorem inf5 : (Try.prog.info? 5).isSome = true := by kernel_rfl
theorem ik5 : intKind Try.prog 5 = some .u8 := by kernel_rfl
theorem ze5 : zeroA Try.prog 5 = some [.int .u8 0] := by kernel_rfl
theorem kd6 : kindA Try.prog 6 = some none := by kernel_rfl
theorem co6 : Try.prog.cellsOf 6 = 1 := by kernel_rfl
theorem nz6 : Try.prog.cellsOf 6 ≠ 0 := by rw [co6]; decide
theorem is6 : (Try.prog.underlying 6).isSome = true := by kernel_rfl
theorem inf6 : (Try.prog.info? 6).isSome = true := by kernel_rfl
theorem ik6 : intKind Try.prog 6 = some .u8 := by kernel_rfl
theorem ze6 : zeroA Try.prog 6 = some [.int .u8 0] := by kernel_rfl
theorem kd7 : kindA Try.prog 7 = some (some 4) := by kernel_rfl
theorem co7 : Try.prog.cellsOf 7 = 4 := by kernel_rfl
theorem nz7 : Try.prog.cellsOf 7 ≠ 0 := by rw [co7]; decide
theorem is7 : (Try.prog.underlying 7).isSome = true := by kernel_rfl
theorem inf7 : (Try.prog.info? 7).isSome = true := by kernel_rfl
theorem fl7_0 : fldA Try.prog 7 0 = some (0, 2) := by kernel_rfl
theorem fl7_1 : fldA Try.prog 7 1 = some (1, 3) := by kernel_rfl
theorem fl7_2 : fldA Try.prog 7 2 = some (2, 4) := by kernel_rfl
theorem fl7_3 : fldA Try.prog 7 3 = some (3, 6) := by kernel_rfl
theorem ze7 : zeroA Try.prog 7 = some [.int .i64 0, .int .i64 0, .bool false, .int .u8 0] := by kernel_rfl
theorem sa7 : structA Try.prog 7 = some ([.int .i64 0, .int .i64 0, .bool false, .int .u8 0], [(0, 1), (1, 1), (2, 1), (3, 1)]) := by kernel_rfl
theorem kd8 : kindA Try.prog 8 = some (some 4) := by kernel_rfl
theorem co8 : Try.prog.cellsOf 8 = 4 := by kernel_rfl
theorem nz8 : Try.prog.cellsOf 8 ≠ 0 := by rw [co8]; decide
theorem is8 : (Try.prog.underlying 8).isSome = true := by kernel_rfl
theorem inf8 : (Try.prog.info? 8).isSome = true := by kernel_rfl
theorem fl8_0 : fldA Try.prog 8 0 = some (0, 2) := by kernel_rfl
theorem fl8_1 : fldA Try.prog 8 1 = some (1, 3) := by kernel_rfl
theorem fl8_2 : fldA Try.prog 8 2 = some (2, 4) := by kernel_rfl
theorem fl8_3 : fldA Try.prog 8 3 = some (3, 6) := by kernel_rfl
theorem ze8 : zeroA Try.prog 8 = some [.int .i64 0, .int .i64 0, .bool false, .int .u8 0] := by kernel_rfl
theorem sa8 : structA Try.prog 8 = some ([.int .i64 0, .int .i64 0, .bool false, .int .u8 0], [(0, 1), (1, 1), (2, 1), (3, 1)]) := by kernel_rfl
theorem kd9 : kindA Try.prog 9 = some none := by kernel_rfl
theorem co9 : Try.prog.cellsOf 9 = 1 := by kernel_rfl
theorem nz9 : Try.prog.cellsOf 9 ≠ 0 := by rw [co9]; decide
theorem is9 : (Try.prog.underlying 9).isSome = true := by kernel_rfl
theorem inf9 : (Try.prog.info? 9).isSome = true := by kernel_rfl
theorem kd10 : kindA Try.prog 10 = some none := by kernel_rfl
theorem co10 : Try.prog.cellsOf 10 = 1 := by kernel_rfl
theorem nz10 : Try.prog.cellsOf 10 ≠ 0 := by rw [co10]; decide
theorem is10 : (Try.prog.underlying 10).isSome = true := by kernel_rfl
theorem inf10 : (Try.prog.info? 10).isSome = true := by kernel_rfl
theorem kd11 : kindA Try.prog 11 = some none := by kernel_rfl
theorem co11 : Try.prog.cellsOf 11 = 1 := by kernel_rfl
theorem nz11 : Try.prog.cellsOf 11 ≠ 0 := by rw [co11]; decide
theorem is11 : (Try.prog.underlying 11).isSome = true := by kernel_rfl
theorem inf11 : (Try.prog.info? 11).isSome = true := by kernel_rfl
theorem kd12 : kindA Try.prog 12 = some none := by kernel_rfl
theorem co12 : Try.prog.cellsOf 12 = 1 := by kernel_rfl
theorem nz12 : Try.prog.cellsOf 12 ≠ 0 := by rw [co12]; decide
theorem is12 : (Try.prog.underlying 12).isSome = true := by kernel_rfl
theorem inf12 : (Try.prog.info? 12).isSome = true := by kernel_rfl
theorem ik12 : intKind Try.prog 12 = some .u64 := by kernel_rfl
theorem ze12 : zeroA Try.prog 12 = some [.int .u64 0] := by kernel_rfl
theorem kd13 : kindA Try.prog 13 = some (some 2) := by kernel_rfl
theorem co13 : Try.prog.cellsOf 13 = 2 := by kernel_rfl
theorem nz13 : Try.prog.cellsOf 13 ≠ 0 := by rw [co13]; decide
theorem is13 : (Try.prog.underlying 13).isSome = true := by kernel_rfl
theorem inf13 : (Try.prog.info? 13).isSome = true := by kernel_rfl
theorem fl13_0 : fldA Try.prog 13 0 = some (0, 9) := by kernel_rfl
theorem fl13_1 : fldA Try.prog 13 1 = some (1, 12) := by kernel_rfl
theorem kd14 : kindA Try.prog 14 = some (some 2) := by kernel_rfl
theorem co14 : Try.prog.cellsOf 14 = 2 := by kernel_rfl
theorem nz14 : Try.prog.cellsOf 14 ≠ 0 := by rw [co14]; decide
theorem is14 : (Try.prog.underlying 14).isSome = true := by kernel_rfl
theorem inf14 : (Try.prog.info? 14).isSome = true := by kernel_rfl
theorem fl14_0 : fldA Try.prog 14 0 = some (0, 9) := by kernel_rfl
theorem fl14_1 : fldA Try.prog 14 1 = some (1, 12) := by kernel_rfl
theorem kd15 : kindA Try.prog 15 = some none := by kernel_rfl
theorem co15 : Try.prog.cellsOf 15 = 1 := by kernel_rfl
theorem nz15 : Try.prog.cellsOf 15 ≠ 0 := by rw [co15]; decide
theorem is15 : (Try.prog.underlying 15).isSome = true := by kernel_rfl
theorem inf15 : (Try.prog.info? 15).isSome = true := by kernel_rfl
theorem ze15 : zeroA Try.prog 15 = some [.pointer none] := by kernel_rfl
theorem kd16 : kindA Try.prog 16 = some none := by kernel_rfl
theorem co16 : Try.prog.cellsOf 16 = 1 := by kernel_rfl
theorem nz16 : Try.prog.cellsOf 16 ≠ 0 := by rw [co16]; decide
theorem is16 : (Try.prog.underlying 16).isSome = true := by kernel_rfl
theorem inf16 : (Try.prog.info? 16).isSome = true := by kernel_rfl
theorem ze16 : zeroA Try.prog 16 = some [.pointer none] := by kernel_rfl
theorem kd17 : kindA Try.prog 17 = some none := by kernel_rfl
theorem co17 : Try.prog.cellsOf 17 = 1 := by kernel_rfl
theorem nz17 : Try.prog.cellsOf 17 ≠ 0 := by rw [co17]; decide
theorem is17 : (Try.prog.underlying 17).isSome = true := by kernel_rfl
theorem inf17 : (Try.prog.info? 17).isSome = true := by kernel_rfl
theorem ze17 : zeroA Try.prog 17 = some [.pointer none] := by kernel_rfl
theorem kd18 : kindA Try.prog 18 = some (some 1) := by kernel_rfl
theorem co18 : Try.prog.cellsOf 18 = 1 := by kernel_rfl
theorem nz18 : Try.prog.cellsOf 18 ≠ 0 := by rw [co18]; decide
theorem is18 : (Try.prog.underlying 18).isSome = true := by kernel_rfl
theorem inf18 : (Try.prog.info? 18).isSome = true := by kernel_rfl
theorem fl18_0 : fldA Try.prog 18 0 = some (0, 17) := by kernel_rfl
theorem ze18 : zeroA Try.prog 18 = some [.pointer none] := by kernel_rfl
theorem sa18 : structA Try.prog 18 = some ([.pointer none], [(0, 1)]) := by kernel_rfl
theorem kd19 : kindA Try.prog 19 = some (some 1) := by kernel_rfl
theorem co19 : Try.prog.cellsOf 19 = 1 := by kernel_rfl
theorem nz19 : Try.prog.cellsOf 19 ≠ 0 := by rw [co19]; decide
theorem is19 : (Try.prog.underlying 19).isSome = true := by kernel_rfl
theorem inf19 : (Try.prog.info? 19).isSome = true := by kernel_rfl
theorem fl19_0 : fldA Try.prog 19 0 = some (0, 17) := by kernel_rfl
theorem ze19 : zeroA Try.prog 19 = some [.pointer none] := by kernel_rfl
theorem sa19 : structA Try.prog 19 = some ([.pointer none], [(0, 1)]) := by kernel_rfl
theorem kd21 : kindA Try.prog 21 = some none := by kernel_rfl
theorem co21 : Try.prog.cellsOf 21 = 1 := by kernel_rfl
theorem nz21 : Try.prog.cellsOf 21 ≠ 0 := by rw [co21]; decide
theorem is21 : (Try.prog.underlying 21).isSome = true := by kernel_rfl
theorem inf21 : (Try.prog.info? 21).isSome = true := by kernel_rfl
theorem ik21 : intKind Try.prog 21 = some .i32 := by kernel_rfl
theorem ze21 : zeroA Try.prog 21 = some [.int .i32 0] := by kernel_rfl
theorem kd22 : kindA Try.prog 22 = some none := by kernel_rfl
theorem co22 : Try.prog.cellsOf 22 = 1 := by kernel_rfl
theorem nz22 : Try.prog.cellsOf 22 ≠ 0 := by rw [co22]; decide
theorem is22 : (Try.prog.underlying 22).isSome = true := by kernel_rfl
theorem inf22 : (Try.prog.info? 22).isSome = true := by kernel_rfl
theorem el22 : elA Try.prog 22 = some (137, 4) := by kernel_rfl
theorem sl22 : isSlice Try.prog 22 = true := by kernel_rfl
theorem ze22 : zeroA Try.prog 22 = some [.slice none 0 0] := by kernel_rfl
theorem kd23 : kindA Try.prog 23 = some (some 2) := by kernel_rfl
theorem co23 : Try.prog.cellsOf 23 = 2 := by kernel_rfl
theorem nz23 : Try.prog.cellsOf 23 ≠ 0 := by rw [co23]; decide
theorem is23 : (Try.prog.underlying 23).isSome = true := by kernel_rfl
theorem inf23 : (Try.prog.info? 23).isSome = true := by kernel_rfl
theorem fl23_0 : fldA Try.prog 23 0 = some (0, 3) := by kernel_rfl
theorem fl23_1 : fldA Try.prog 23 1 = some (1, 22) := by kernel_rfl
theorem ze23 : zeroA Try.prog 23 = some [.int .i64 0, .slice none 0 0] := by kernel_rfl
theorem sa23 : structA Try.prog 23 = some ([.int .i64 0, .slice none 0 0], [(0, 1), (1, 1)]) := by kernel_rfl
theorem kd24 : kindA Try.prog 24 = some (some 2) := by kernel_rfl
theorem co24 : Try.prog.cellsOf 24 = 2 := by kernel_rfl
theorem nz24 : Try.prog.cellsOf 24 ≠ 0 := by rw [co24]; decide
theorem is24 : (Try.prog.underlying 24).isSome = true := by kernel_rfl
theorem inf24 : (Try.prog.info? 24).isSome = true := by kernel_rfl
theorem fl24_0 : fldA Try.prog 24 0 = some (0, 3) := by kernel_rfl
theorem fl24_1 : fldA Try.prog 24 1 = some (1, 22) := by kernel_rfl
theorem ze24 : zeroA Try.prog 24 = some [.int .i64 0, .slice none 0 0] := by kernel_rfl
theorem sa24 : structA Try.prog 24 = some ([.int .i64 0, .slice none 0 0], [(0, 1), (1, 1)]) := by kernel_rfl
theorem kd25 : kindA Try.prog 25 = some none := by kernel_rfl
theorem co25 : Try.prog.cellsOf 25 = 1 := by kernel_rfl
theorem nz25 : Try.prog.cellsOf 25 ≠ 0 := by rw [co25]; decide
theorem is25 : (Try.prog.underlying 25).isSome = true := by kernel_rfl
theorem inf25 : (Try.prog.info? 25).isSome = true := by kernel_rfl
theorem el25 : elA Try.prog 25 = some (3, 1) := by kernel_rfl
theorem sl25 : isSlice Try.prog 25 = true := by kernel_rfl
theorem ze25 : zeroA Try.prog 25 = some [.slice none 0 0] := by kernel_rfl
theorem kd26 : kindA Try.prog 26 = some none := by kernel_rfl
theorem co26 : Try.prog.cellsOf 26 = 1 := by kernel_rfl
theorem nz26 : Try.prog.cellsOf 26 ≠ 0 := by rw [co26]; decide
theorem is26 : (Try.prog.underlying 26).isSome = true := by kernel_rfl
theorem inf26 : (Try.prog.info? 26).isSome = true := by kernel_rfl
theorem kd28 : kindA Try.prog 28 = some none := by kernel_rfl
theorem co28 : Try.prog.cellsOf 28 = 1 := by kernel_rfl
theorem nz28 : Try.prog.cellsOf 28 ≠ 0 := by rw [co28]; decide
theorem is28 : (Try.prog.underlying 28).isSome = true := by kernel_rfl
theorem inf28 : (Try.prog.info? 28).isSome = true := by kernel_rfl
theorem kd29 : kindA Try.prog 29 = some none := by kernel_rfl
theorem co29 : Try.prog.cellsOf 29 = 1 := by kernel_rfl
theorem nz29 : Try.prog.cellsOf 29 ≠ 0 := by rw [co29]; decide
theorem is29 : (Try.prog.underlying 29).isSome = true := by kernel_rfl
theorem inf29 : (Try.prog.info? 29).isSome = true := by kernel_rfl
theorem el29 : elA Try.prog 29 = some (123, 4) := by kernel_rfl
theorem sl29 : isSlice Try.prog 29 = true := by kernel_rfl
theorem ze29 : zeroA Try.prog 29 = some [.slice none 0 0] := by kernel_rfl
theorem kd30 : kindA Try.prog 30 = some (some 2) := by kernel_rfl
theorem co30 : Try.prog.cellsOf 30 = 2 := by kernel_rfl
theorem nz30 : Try.prog.cellsOf 30 ≠ 0 := by rw [co30]; decide
theorem is30 : (Try.prog.underlying 30).isSome = true := by kernel_rfl
theorem inf30 : (Try.prog.info? 30).isSome = true := by kernel_rfl
theorem fl30_0 : fldA Try.prog 30 0 = some (0, 3) := by kernel_rfl
theorem fl30_1 : fldA Try.prog 30 1 = some (1, 29) := by kernel_rfl
theorem ze30 : zeroA Try.prog 30 = some [.int .i64 0, .slice none 0 0] := by kernel_rfl
theorem sa30 : structA Try.prog 30 = some ([.int .i64 0, .slice none 0 0], [(0, 1), (1, 1)]) := by kernel_rfl
theorem kd31 : kindA Try.prog 31 = some (some 2) := by kernel_rfl
theorem co31 : Try.prog.cellsOf 31 = 2 := by kernel_rfl
theorem nz31 : Try.prog.cellsOf 31 ≠ 0 := by rw [co31]; decide
theorem is31 : (Try.prog.underlying 31).isSome = true := by kernel_rfl
theorem inf31 : (Try.prog.info? 31).isSome = true := by kernel_rfl
theorem fl31_0 : fldA Try.prog 31 0 = some (0, 3) := by kernel_rfl
theorem fl31_1 : fldA Try.prog 31 1 = some (1, 29) := by kernel_rfl
theorem ze31 : zeroA Try.prog 31 = some [.int .i64 0, .slice none 0 0] := by kernel_rfl
theorem sa31 : structA Try.prog 31 = some ([.int .i64 0, .slice none 0 0], [(0, 1), (1, 1)]) := by kernel_rfl
theorem kd32 : kindA Try.prog 32 = some none := by kernel_rfl
theorem co32 : Try.prog.cellsOf 32 = 1 := by kernel_rfl
theorem nz32 : Try.prog.cellsOf 32 ≠ 0 := by rw [co32]; decide
theorem is32 : (Try.prog.underlying 32).isSome = true := by kernel_rfl
theorem inf32 : (Try.prog.info? 32).isSome = true := by kernel_rfl
theorem kd33 : kindA Try.prog 33 = some none := by kernel_rfl
theorem co33 : Try.prog.cellsOf 33 = 1 := by kernel_rfl
theorem nz33 : Try.prog.cellsOf 33 ≠ 0 := by rw [co33]; decide
theorem is33 : (Try.prog.underlying 33).isSome = true := by kernel_rfl
theorem inf33 : (Try.prog.info? 33).isSome = true := by kernel_rfl
theorem kd34 : kindA Try.prog 34 = some none := by kernel_rfl
theorem co34 : Try.prog.cellsOf 34 = 1 := by kernel_rfl
theorem nz34 : Try.prog.cellsOf 34 ≠ 0 := by rw [co34]; decide
theorem is34 : (Try.prog.underlying 34).isSome = true := by kernel_rfl
theorem inf34 : (Try.prog.info? 34).isSome = true := by kernel_rfl
theorem kd35 : kindA Try.prog 35 = some none := by kernel_rfl
theorem co35 : Try.prog.cellsOf 35 = 1 := by kernel_rfl
theorem nz35 : Try.prog.cellsOf 35 ≠ 0 := by rw [co35]; decide
theorem is35 : (Try.prog.underlying 35).isSome = true := by kernel_rfl
theorem inf35 : (Try.prog.info? 35).isSome = true := by kernel_rfl
theorem kd36 : kindA Try.prog 36 = some none := by kernel_rfl
theorem co36 : Try.prog.cellsOf 36 = 1 := by kernel_rfl
theorem nz36 : Try.prog.cellsOf 36 ≠ 0 := by rw [co36]; decide
theorem is36 : (Try.prog.underlying 36).isSome = true := by kernel_rfl
theorem inf36 : (Try.prog.info? 36).isSome = true := by kernel_rfl
theorem kd37 : kindA Try.prog 37 = some none := by kernel_rfl
theorem co37 : Try.prog.cellsOf 37 = 1 := by kernel_rfl
theorem nz37 : Try.prog.cellsOf 37 ≠ 0 := by rw [co37]; decide
theorem is37 : (Try.prog.underlying 37).isSome = true := by kernel_rfl
theorem inf37 : (Try.prog.info? 37).isSome = true := by kernel_rfl
theorem kd38 : kindA Try.prog 38 = some none := by kernel_rfl
theorem co38 : Try.prog.cellsOf 38 = 1 := by kernel_rfl
theorem nz38 : Try.prog.cellsOf 38 ≠ 0 := by rw [co38]; decide
theorem is38 : (Try.prog.underlying 38).isSome = true := by kernel_rfl
theorem inf38 : (Try.prog.info? 38).isSome = true := by kernel_rfl
theorem kd39 : kindA Try.prog 39 = some none := by kernel_rfl
theorem co39 : Try.prog.cellsOf 39 = 1 := by kernel_rfl
theorem nz39 : Try.prog.cellsOf 39 ≠ 0 := by rw [co39]; decide
theorem is39 : (Try.prog.underlying 39).isSome = true := by kernel_rfl
theorem inf39 : (Try.prog.info? 39).isSome = true := by kernel_rfl
theorem kd40 : kindA Try.prog 40 = some none := by kernel_rfl
theorem co40 : Try.prog.cellsOf 40 = 1 := by kernel_rfl
theorem nz40 : Try.prog.cellsOf 40 ≠ 0 := by rw [co40]; decide
theorem is40 : (Try.prog.underlying 40).isSome = true := by kernel_rfl
theorem inf40 : (Try.prog.info? 40).isSome = true := by kernel_rfl
theorem kd41 : kindA Try.prog 41 = some none := by kernel_rfl
theorem co41 : Try.prog.cellsOf 41 = 1 := by kernel_rfl
theorem nz41 : Try.prog.cellsOf 41 ≠ 0 := by rw [co41]; decide
theorem is41 : (Try.prog.underlying 41).isSome = true := by kernel_rfl
theorem inf41 : (Try.prog.info? 41).isSome = true := by kernel_rfl
theorem kd42 : kindA Try.prog 42 = some none := by kernel_rfl
theorem co42 : Try.prog.cellsOf 42 = 1 := by kernel_rfl
theorem nz42 : Try.prog.cellsOf 42 ≠ 0 := by rw [co42]; decide
theorem is42 : (Try.prog.underlying 42).isSome = true := by kernel_rfl
theorem inf42 : (Try.prog.info? 42).isSome = true := by kernel_rfl
theorem kd43 : kindA Try.prog 43 = some none := by kernel_rfl
theorem co43 : Try.prog.cellsOf 43 = 1 := by kernel_rfl
theorem nz43 : Try.prog.cellsOf 43 ≠ 0 := by rw [co43]; decide
theorem is43 : (Try.prog.underlying 43).isSome = true := by kernel_rfl
theorem inf43 : (Try.prog.info? 43).isSome = true := by kernel_rfl
theorem el43 : elA Try.prog 43 = some (149, 7) := by kernel_rfl
theorem sl43 : isSlice Try.prog 43 = true := by kernel_rfl
theorem ze43 : zeroA Try.prog 43 = some [.slice none 0 0] := by kernel_rfl
theorem kd44 : kindA Try.prog 44 = some none := by kernel_rfl
theorem co44 : Try.prog.cellsOf 44 = 1 := by kernel_rfl
theorem nz44 : Try.prog.cellsOf 44 ≠ 0 := by rw [co44]; decide
theorem is44 : (Try.prog.underlying 44).isSome = true := by kernel_rfl
theorem inf44 : (Try.prog.info? 44).isSome = true := by kernel_rfl
theorem el44 : elA Try.prog 44 = some (151, 7) := by kernel_rfl
theorem sl44 : isSlice Try.prog 44 = true := by kernel_rfl
theorem ze44 : zeroA Try.prog 44 = some [.slice none 0 0] := by kernel_rfl
theorem kd45 : kindA Try.prog 45 = some none := by kernel_rfl
theorem co45 : Try.prog.cellsOf 45 = 1 := by kernel_rfl
theorem nz45 : Try.prog.cellsOf 45 ≠ 0 := by rw [co45]; decide
theorem is45 : (Try.prog.underlying 45).isSome = true := by kernel_rfl
theorem inf45 : (Try.prog.info? 45).isSome = true := by kernel_rfl
theorem el45 : elA Try.prog 45 = some (153, 5) := by kernel_rfl
theorem sl45 : isSlice Try.prog 45 = true := by kernel_rfl
theorem ze45 : zeroA Try.prog 45 = some [.slice none 0 0] := by kernel_rfl
theorem kd46 : kindA Try.prog 46 = some (some 6) := by kernel_rfl
theorem co46 : Try.prog.cellsOf 46 = 6 := by kernel_rfl
theorem nz46 : Try.prog.cellsOf 46 ≠ 0 := by rw [co46]; decide
theorem is46 : (Try.prog.underlying 46).isSome = true := by kernel_rfl
theorem inf46 : (Try.prog.info? 46).isSome = true := by kernel_rfl
theorem fl46_0 : fldA Try.prog 46 0 = some (0, 3) := by kernel_rfl
theorem fl46_1 : fldA Try.prog 46 1 = some (1, 3) := by kernel_rfl
theorem fl46_2 : fldA Try.prog 46 2 = some (2, 3) := by kernel_rfl
theorem fl46_3 : fldA Try.prog 46 3 = some (3, 43) := by kernel_rfl
theorem fl46_4 : fldA Try.prog 46 4 = some (4, 44) := by kernel_rfl
theorem fl46_5 : fldA Try.prog 46 5 = some (5, 45) := by kernel_rfl
theorem ze46 : zeroA Try.prog 46 = some [.int .i64 0, .int .i64 0, .int .i64 0, .slice none 0 0, .slice none 0 0, .slice none 0 0] := by kernel_rfl
theorem sa46 : structA Try.prog 46 = some ([.int .i64 0, .int .i64 0, .int .i64 0, .slice none 0 0, .slice none 0 0, .slice none 0 0], [(0, 1), (1, 1), (2, 1), (3, 1), (4, 1), (5, 1)]) := by kernel_rfl
theorem kd47 : kindA Try.prog 47 = some (some 6) := by kernel_rfl
theorem co47 : Try.prog.cellsOf 47 = 6 := by kernel_rfl
theorem nz47 : Try.prog.cellsOf 47 ≠ 0 := by rw [co47]; decide
theorem is47 : (Try.prog.underlying 47).isSome = true := by kernel_rfl
theorem inf47 : (Try.prog.info? 47).isSome = true := by kernel_rfl
theorem fl47_0 : fldA Try.prog 47 0 = some (0, 3) := by kernel_rfl
theorem fl47_1 : fldA Try.prog 47 1 = some (1, 3) := by kernel_rfl
theorem fl47_2 : fldA Try.prog 47 2 = some (2, 3) := by kernel_rfl
theorem fl47_3 : fldA Try.prog 47 3 = some (3, 43) := by kernel_rfl
theorem fl47_4 : fldA Try.prog 47 4 = some (4, 44) := by kernel_rfl
theorem fl47_5 : fldA Try.prog 47 5 = some (5, 45) := by kernel_rfl
theorem ze47 : zeroA Try.prog 47 = some [.int .i64 0, .int .i64 0, .int .i64 0, .slice none 0 0, .slice none 0 0, .slice none 0 0] := by kernel_rfl
theorem sa47 : structA Try.prog 47 = some ([.int .i64 0, .int .i64 0, .int .i64 0, .slice none 0 0, .slice none 0 0, .slice none 0 0], [(0, 1), (1, 1), (2, 1), (3, 1), (4, 1), (5, 1)]) := by kernel_rfl
theorem kd48 : kindA Try.prog 48 = some none := by kernel_rfl
theorem co48 : Try.prog.cellsOf 48 = 1 := by kernel_rfl
theorem nz48 : Try.prog.cellsOf 48 ≠ 0 := by rw [co48]; decide
theorem is48 : (Try.prog.underlying 48).isSome = true := by kernel_rfl
theorem inf48 : (Try.prog.info? 48).isSome = true := by kernel_rfl
theorem el48 : elA Try.prog 48 = some (157, 3) := by kernel_rfl
theorem sl48 : isSlice Try.prog 48 = true := by kernel_rfl
theorem ze48 : zeroA Try.prog 48 = some [.slice none 0 0] := by kernel_rfl
theorem kd49 : kindA Try.prog 49 = some (some 2) := by kernel_rfl
theorem co49 : Try.prog.cellsOf 49 = 2 := by kernel_rfl
theorem nz49 : Try.prog.cellsOf 49 ≠ 0 := by rw [co49]; decide
theorem is49 : (Try.prog.underlying 49).isSome = true := by kernel_rfl
theorem inf49 : (Try.prog.info? 49).isSome = true := by kernel_rfl
theorem fl49_0 : fldA Try.prog 49 0 = some (0, 3) := by kernel_rfl
theorem fl49_1 : fldA Try.prog 49 1 = some (1, 48) := by kernel_rfl
theorem ze49 : zeroA Try.prog 49 = some [.int .i64 0, .slice none 0 0] := by kernel_rfl
theorem sa49 : structA Try.prog 49 = some ([.int .i64 0, .slice none 0 0], [(0, 1), (1, 1)]) := by kernel_rfl
theorem kd50 : kindA Try.prog 50 = some (some 2) := by kernel_rfl
theorem co50 : Try.prog.cellsOf 50 = 2 := by kernel_rfl
theorem nz50 : Try.prog.cellsOf 50 ≠ 0 := by rw [co50]; decide
theorem is50 : (Try.prog.underlying 50).isSome = true := by kernel_rfl
theorem inf50 : (Try.prog.info? 50).isSome = true := by kernel_rfl
theorem fl50_0 : fldA Try.prog 50 0 = some (0, 3) := by kernel_rfl
theorem fl50_1 : fldA Try.prog 50 1 = some (1, 48) := by kernel_rfl
theorem ze50 : zeroA Try.prog 50 = some [.int .i64 0, .slice none 0 0] := by kernel_rfl
theorem sa50 : structA Try.prog 50 = some ([.int .i64 0, .slice none 0 0], [(0, 1), (1, 1)]) := by kernel_rfl
theorem kd51 : kindA Try.prog 51 = some none := by kernel_rfl
theorem co51 : Try.prog.cellsOf 51 = 1 := by kernel_rfl
theorem nz51 : Try.prog.cellsOf 51 ≠ 0 := by rw [co51]; decide
theorem is51 : (Try.prog.underlying 51).isSome = true := by kernel_rfl
theorem inf51 : (Try.prog.info? 51).isSome = true := by kernel_rfl
theorem kd52 : kindA Try.prog 52 = some none := by kernel_rfl
theorem co52 : Try.prog.cellsOf 52 = 1 := by kernel_rfl
theorem nz52 : Try.prog.cellsOf 52 ≠ 0 := by rw [co52]; decide
theorem is52 : (Try.prog.underlying 52).isSome = true := by kernel_rfl
theorem inf52 : (Try.prog.info? 52).isSome = true := by kernel_rfl
theorem kd53 : kindA Try.prog 53 = some none := by kernel_rfl
theorem co53 : Try.prog.cellsOf 53 = 1 := by kernel_rfl
theorem nz53 : Try.prog.cellsOf 53 ≠ 0 := by rw [co53]; decide
theorem is53 : (Try.prog.underlying 53).isSome = true := by kernel_rfl
theorem inf53 : (Try.prog.info? 53).isSome = true := by kernel_rfl
theorem kd54 : kindA Try.prog 54 = some none := by kernel_rfl
theorem co54 : Try.prog.cellsOf 54 = 1 := by kernel_rfl
theorem nz54 : Try.prog.cellsOf 54 ≠ 0 := by rw [co54]; decide
theorem is54 : (Try.prog.underlying 54).isSome = true := by kernel_rfl
theorem inf54 : (Try.prog.info? 54).isSome = true := by kernel_rfl
theorem el54 : elA Try.prog 54 = some (107, 7) := by kernel_rfl
theorem sl54 : isSlice Try.prog 54 = true := by kernel_rfl
theorem ze54 : zeroA Try.prog 54 = some [.slice none 0 0] := by kernel_rfl
theorem kd55 : kindA Try.prog 55 = some none := by kernel_rfl
theorem co55 : Try.prog.cellsOf 55 = 1 := by kernel_rfl
theorem nz55 : Try.prog.cellsOf 55 ≠ 0 := by rw [co55]; decide
theorem is55 : (Try.prog.underlying 55).isSome = true := by kernel_rfl
theorem inf55 : (Try.prog.info? 55).isSome = true := by kernel_rfl
theorem el55 : elA Try.prog 55 = some (145, 7) := by kernel_rfl
theorem sl55 : isSlice Try.prog 55 = true := by kernel_rfl
theorem ze55 : zeroA Try.prog 55 = some [.slice none 0 0] := by kernel_rfl
theorem kd56 : kindA Try.prog 56 = some none := by kernel_rfl
theorem co56 : Try.prog.cellsOf 56 = 1 := by kernel_rfl
theorem nz56 : Try.prog.cellsOf 56 ≠ 0 := by rw [co56]; decide
theorem is56 : (Try.prog.underlying 56).isSome = true := by kernel_rfl
theorem inf56 : (Try.prog.info? 56).isSome = true := by kernel_rfl
theorem el56 : elA Try.prog 56 = some (147, 5) := by kernel_rfl
theorem sl56 : isSlice Try.prog 56 = true := by kernel_rfl
theorem ze56 : zeroA Try.prog 56 = some [.slice none 0 0] := by kernel_rfl
theorem kd57 : kindA Try.prog 57 = some (some 6) := by kernel_rfl
theorem co57 : Try.prog.cellsOf 57 = 6 := by kernel_rfl
theorem nz57 : Try.prog.cellsOf 57 ≠ 0 := by rw [co57]; decide
theorem is57 : (Try.prog.underlying 57).isSome = true := by kernel_rfl
theorem inf57 : (Try.prog.info? 57).isSome = true := by kernel_rfl
theorem fl57_0 : fldA Try.prog 57 0 = some (0, 3) := by kernel_rfl
theorem fl57_1 : fldA Try.prog 57 1 = some (1, 3) := by kernel_rfl
theorem fl57_2 : fldA Try.prog 57 2 = some (2, 3) := by kernel_rfl
theorem fl57_3 : fldA Try.prog 57 3 = some (3, 54) := by kernel_rfl
theorem fl57_4 : fldA Try.prog 57 4 = some (4, 55) := by kernel_rfl
theorem fl57_5 : fldA Try.prog 57 5 = some (5, 56) := by kernel_rfl
theorem ze57 : zeroA Try.prog 57 = some [.int .i64 0, .int .i64 0, .int .i64 0, .slice none 0 0, .slice none 0 0, .slice none 0 0] := by kernel_rfl
theorem sa57 : structA Try.prog 57 = some ([.int .i64 0, .int .i64 0, .int .i64 0, .slice none 0 0, .slice none 0 0, .slice none 0 0], [(0, 1), (1, 1), (2, 1), (3, 1), (4, 1), (5, 1)]) := by kernel_rfl
theorem kd58 : kindA Try.prog 58 = some (some 6) := by kernel_rfl
theorem co58 : Try.prog.cellsOf 58 = 6 := by kernel_rfl
theorem nz58 : Try.prog.cellsOf 58 ≠ 0 := by rw [co58]; decide
theorem is58 : (Try.prog.underlying 58).isSome = true := by kernel_rfl
theorem inf58 : (Try.prog.info? 58).isSome = true := by kernel_rfl
theorem fl58_0 : fldA Try.prog 58 0 = some (0, 3) := by kernel_rfl
theorem fl58_1 : fldA Try.prog 58 1 = some (1, 3) := by kernel_rfl
theorem fl58_2 : fldA Try.prog 58 2 = some (2, 3) := by kernel_rfl
theorem fl58_3 : fldA Try.prog 58 3 = some (3, 54) := by kernel_rfl
theorem fl58_4 : fldA Try.prog 58 4 = some (4, 55) := by kernel_rfl
theorem fl58_5 : fldA Try.prog 58 5 = some (5, 56) := by kernel_rfl
theorem ze58 : zeroA Try.prog 58 = some [.int .i64 0, .int .i64 0, .int .i64 0, .slice none 0 0, .slice none 0 0, .slice none 0 0] := by kernel_rfl
theorem sa58 : structA Try.prog 58 = some ([.int .i64 0, .int .i64 0, .int .i64 0, .slice none 0 0, .slice none 0 0, .slice none 0 0], [(0, 1), (1, 1), (2, 1), (3, 1), (4, 1), (5, 1)]) := by kernel_rfl
theorem kd59 : kindA Try.prog 59 = some none := by kernel_rfl
theorem co59 : Try.prog.cellsOf 59 = 1 := by kernel_rfl
theorem nz59 : Try.prog.cellsOf 59 ≠ 0 := by rw [co59]; decide
theorem is59 : (Try.prog.underlying 59).isSome = true := by kernel_rfl
theorem inf59 : (Try.prog.info? 59).isSome = true := by kernel_rfl
theorem kd60 : kindA Try.prog 60 = some none := by kernel_rfl
theorem co60 : Try.prog.cellsOf 60 = 1 := by kernel_rfl
theorem nz60 : Try.prog.cellsOf 60 ≠ 0 := by rw [co60]; decide
theorem is60 : (Try.prog.underlying 60).isSome = true := by kernel_rfl
theorem inf60 : (Try.prog.info? 60).isSome = true := by kernel_rfl
theorem el60 : elA Try.prog 60 = some (143, 3) := by kernel_rfl
theorem sl60 : isSlice Try.prog 60 = true := by kernel_rfl
theorem ze60 : zeroA Try.prog 60 = some [.slice none 0 0] := by kernel_rfl
theorem kd61 : kindA Try.prog 61 = some (some 2) := by kernel_rfl
theorem co61 : Try.prog.cellsOf 61 = 2 := by kernel_rfl
theorem nz61 : Try.prog.cellsOf 61 ≠ 0 := by rw [co61]; decide
theorem is61 : (Try.prog.underlying 61).isSome = true := by kernel_rfl
theorem inf61 : (Try.prog.info? 61).isSome = true := by kernel_rfl
theorem fl61_0 : fldA Try.prog 61 0 = some (0, 3) := by kernel_rfl
theorem fl61_1 : fldA Try.prog 61 1 = some (1, 60) := by kernel_rfl
theorem ze61 : zeroA Try.prog 61 = some [.int .i64 0, .slice none 0 0] := by kernel_rfl
theorem sa61 : structA Try.prog 61 = some ([.int .i64 0, .slice none 0 0], [(0, 1), (1, 1)]) := by kernel_rfl
theorem kd62 : kindA Try.prog 62 = some (some 2) := by kernel_rfl
theorem co62 : Try.prog.cellsOf 62 = 2 := by kernel_rfl
theorem nz62 : Try.prog.cellsOf 62 ≠ 0 := by rw [co62]; decide
theorem is62 : (Try.prog.underlying 62).isSome = true := by kernel_rfl
theorem inf62 : (Try.prog.info? 62).isSome = true := by kernel_rfl
theorem fl62_0 : fldA Try.prog 62 0 = some (0, 3) := by kernel_rfl
theorem fl62_1 : fldA Try.prog 62 1 = some (1, 60) := by kernel_rfl
theorem ze62 : zeroA Try.prog 62 = some [.int .i64 0, .slice none 0 0] := by kernel_rfl
theorem sa62 : structA Try.prog 62 = some ([.int .i64 0, .slice none 0 0], [(0, 1), (1, 1)]) := by kernel_rfl
theorem kd63 : kindA Try.prog 63 = some none := by kernel_rfl
theorem co63 : Try.prog.cellsOf 63 = 1 := by kernel_rfl
theorem nz63 : Try.prog.cellsOf 63 ≠ 0 := by rw [co63]; decide
theorem is63 : (Try.prog.underlying 63).isSome = true := by kernel_rfl
theorem inf63 : (Try.prog.info? 63).isSome = true := by kernel_rfl
theorem kd64 : kindA Try.prog 64 = some none := by kernel_rfl
theorem co64 : Try.prog.cellsOf 64 = 1 := by kernel_rfl
theorem nz64 : Try.prog.cellsOf 64 ≠ 0 := by rw [co64]; decide
theorem is64 : (Try.prog.underlying 64).isSome = true := by kernel_rfl
theorem inf64 : (Try.prog.info? 64).isSome = true := by kernel_rfl
theorem kd65 : kindA Try.prog 65 = some none := by kernel_rfl
theorem co65 : Try.prog.cellsOf 65 = 1 := by kernel_rfl
theorem nz65 : Try.prog.cellsOf 65 ≠ 0 := by rw [co65]; decide
theorem is65 : (Try.prog.underlying 65).isSome = true := by kernel_rfl
theorem inf65 : (Try.prog.info? 65).isSome = true := by kernel_rfl
theorem kd66 : kindA Try.prog 66 = some none := by kernel_rfl
theorem co66 : Try.prog.cellsOf 66 = 1 := by kernel_rfl
theorem nz66 : Try.prog.cellsOf 66 ≠ 0 := by rw [co66]; decide
theorem is66 : (Try.prog.underlying 66).isSome = true := by kernel_rfl
theorem inf66 : (Try.prog.info? 66).isSome = true := by kernel_rfl
theorem kd67 : kindA Try.prog 67 = some none := by kernel_rfl
theorem co67 : Try.prog.cellsOf 67 = 1 := by kernel_rfl
theorem nz67 : Try.prog.cellsOf 67 ≠ 0 := by rw [co67]; decide
theorem is67 : (Try.prog.underlying 67).isSome = true := by kernel_rfl
theorem inf67 : (Try.prog.info? 67).isSome = true := by kernel_rfl
theorem el67 : elA Try.prog 67 = some (127, 3) := by kernel_rfl
theorem sl67 : isSlice Try.prog 67 = true := by kernel_rfl
theorem ze67 : zeroA Try.prog 67 = some [.slice none 0 0] := by kernel_rfl
theorem kd68 : kindA Try.prog 68 = some none := by kernel_rfl
theorem co68 : Try.prog.cellsOf 68 = 1 := by kernel_rfl
theorem nz68 : Try.prog.cellsOf 68 ≠ 0 := by rw [co68]; decide
theorem is68 : (Try.prog.underlying 68).isSome = true := by kernel_rfl
theorem inf68 : (Try.prog.info? 68).isSome = true := by kernel_rfl
theorem kd70 : kindA Try.prog 70 = some none := by kernel_rfl
theorem co70 : Try.prog.cellsOf 70 = 1 := by kernel_rfl
theorem nz70 : Try.prog.cellsOf 70 ≠ 0 := by rw [co70]; decide
theorem is70 : (Try.prog.underlying 70).isSome = true := by kernel_rfl
theorem inf70 : (Try.prog.info? 70).isSome = true := by kernel_rfl
theorem kd71 : kindA Try.prog 71 = some none := by kernel_rfl
theorem co71 : Try.prog.cellsOf 71 = 1 := by kernel_rfl
theorem nz71 : Try.prog.cellsOf 71 ≠ 0 := by rw [co71]; decide
theorem is71 : (Try.prog.underlying 71).isSome = true := by kernel_rfl
theorem inf71 : (Try.prog.info? 71).isSome = true := by kernel_rfl
theorem el71 : elA Try.prog 71 = some (125, 3) := by kernel_rfl
theorem sl71 : isSlice Try.prog 71 = true := by kernel_rfl
theorem ze71 : zeroA Try.prog 71 = some [.slice none 0 0] := by kernel_rfl
theorem kd72 : kindA Try.prog 72 = some none := by kernel_rfl
theorem co72 : Try.prog.cellsOf 72 = 1 := by kernel_rfl
theorem nz72 : Try.prog.cellsOf 72 ≠ 0 := by rw [co72]; decide
theorem is72 : (Try.prog.underlying 72).isSome = true := by kernel_rfl
theorem inf72 : (Try.prog.info? 72).isSome = true := by kernel_rfl
theorem kd73 : kindA Try.prog 73 = some none := by kernel_rfl
theorem co73 : Try.prog.cellsOf 73 = 1 := by kernel_rfl
theorem nz73 : Try.prog.cellsOf 73 ≠ 0 := by rw [co73]; decide
theorem is73 : (Try.prog.underlying 73).isSome = true := by kernel_rfl
theorem inf73 : (Try.prog.info? 73).isSome = true := by kernel_rfl
theorem kd74 : kindA Try.prog 74 = some none := by kernel_rfl
theorem co74 : Try.prog.cellsOf 74 = 1 := by kernel_rfl
theorem nz74 : Try.prog.cellsOf 74 ≠ 0 := by rw [co74]; decide
theorem is74 : (Try.prog.underlying 74).isSome = true := by kernel_rfl
theorem inf74 : (Try.prog.info? 74).isSome = true := by kernel_rfl
theorem kd75 : kindA Try.prog 75 = some none := by kernel_rfl
theorem co75 : Try.prog.cellsOf 75 = 1 := by kernel_rfl
theorem nz75 : Try.prog.cellsOf 75 ≠ 0 := by rw [co75]; decide
theorem is75 : (Try.prog.underlying 75).isSome = true := by kernel_rfl
theorem inf75 : (Try.prog.info? 75).isSome = true := by kernel_rfl
theorem kd76 : kindA Try.prog 76 = some none := by kernel_rfl
theorem co76 : Try.prog.cellsOf 76 = 1 := by kernel_rfl
theorem nz76 : Try.prog.cellsOf 76 ≠ 0 := by rw [co76]; decide
theorem is76 : (Try.prog.underlying 76).isSome = true := by kernel_rfl
theorem inf76 : (Try.prog.info? 76).isSome = true := by kernel_rfl
theorem kd77 : kindA Try.prog 77 = some none := by kernel_rfl
theorem co77 : Try.prog.cellsOf 77 = 1 := by kernel_rfl
theorem nz77 : Try.prog.cellsOf 77 ≠ 0 := by rw [co77]; decide
theorem is77 : (Try.prog.underlying 77).isSome = true := by kernel_rfl
theorem inf77 : (Try.prog.info? 77).isSome = true := by kernel_rfl
theorem el77 : elA Try.prog 77 = some (134, 4) := by kernel_rfl
theorem sl77 : isSlice Try.prog 77 = true := by kernel_rfl
theorem ze77 : zeroA Try.prog 77 = some [.slice none 0 0] := by kernel_rfl
theorem kd79 : kindA Try.prog 79 = some none := by kernel_rfl
theorem co79 : Try.prog.cellsOf 79 = 1 := by kernel_rfl
theorem nz79 : Try.prog.cellsOf 79 ≠ 0 := by rw [co79]; decide
theorem is79 : (Try.prog.underlying 79).isSome = true := by kernel_rfl
theorem inf79 : (Try.prog.info? 79).isSome = true := by kernel_rfl
theorem kd80 : kindA Try.prog 80 = some none := by kernel_rfl
theorem co80 : Try.prog.cellsOf 80 = 1 := by kernel_rfl
theorem nz80 : Try.prog.cellsOf 80 ≠ 0 := by rw [co80]; decide
theorem is80 : (Try.prog.underlying 80).isSome = true := by kernel_rfl
theorem inf80 : (Try.prog.info? 80).isSome = true := by kernel_rfl
theorem kd81 : kindA Try.prog 81 = some none := by kernel_rfl
theorem co81 : Try.prog.cellsOf 81 = 1 := by kernel_rfl
theorem nz81 : Try.prog.cellsOf 81 ≠ 0 := by rw [co81]; decide
theorem is81 : (Try.prog.underlying 81).isSome = true := by kernel_rfl
theorem inf81 : (Try.prog.info? 81).isSome = true := by kernel_rfl
theorem kd82 : kindA Try.prog 82 = some none := by kernel_rfl
theorem co82 : Try.prog.cellsOf 82 = 1 := by kernel_rfl
theorem nz82 : Try.prog.cellsOf 82 ≠ 0 := by rw [co82]; decide
theorem is82 : (Try.prog.underlying 82).isSome = true := by kernel_rfl
theorem inf82 : (Try.prog.info? 82).isSome = true := by kernel_rfl
theorem kd83 : kindA Try.prog 83 = some none := by kernel_rfl
theorem co83 : Try.prog.cellsOf 83 = 1 := by kernel_rfl
theorem nz83 : Try.prog.cellsOf 83 ≠ 0 := by rw [co83]; decide
theorem is83 : (Try.prog.underlying 83).isSome = true := by kernel_rfl
theorem inf83 : (Try.prog.info? 83).isSome = true := by kernel_rfl
theorem kd84 : kindA Try.prog 84 = some none := by kernel_rfl
theorem co84 : Try.prog.cellsOf 84 = 1 := by kernel_rfl
theorem nz84 : Try.prog.cellsOf 84 ≠ 0 := by rw [co84]; decide
theorem is84 : (Try.prog.underlying 84).isSome = true := by kernel_rfl
theorem inf84 : (Try.prog.info? 84).isSome = true := by kernel_rfl
theorem el84 : elA Try.prog 84 = some (87, 5) := by kernel_rfl
theorem sl84 : isSlice Try.prog 84 = true := by kernel_rfl
theorem ze84 : zeroA Try.prog 84 = some [.slice none 0 0] := by kernel_rfl
theorem kd85 : kindA Try.prog 85 = some none := by kernel_rfl
theorem co85 : Try.prog.cellsOf 85 = 1 := by kernel_rfl
theorem nz85 : Try.prog.cellsOf 85 ≠ 0 := by rw [co85]; decide
theorem is85 : (Try.prog.underlying 85).isSome = true := by kernel_rfl
theorem inf85 : (Try.prog.info? 85).isSome = true := by kernel_rfl
theorem kd86 : kindA Try.prog 86 = some (some 5) := by kernel_rfl
theorem co86 : Try.prog.cellsOf 86 = 5 := by kernel_rfl
theorem nz86 : Try.prog.cellsOf 86 ≠ 0 := by rw [co86]; decide
theorem is86 : (Try.prog.underlying 86).isSome = true := by kernel_rfl
theorem inf86 : (Try.prog.info? 86).isSome = true := by kernel_rfl
theorem fl86_0 : fldA Try.prog 86 0 = some (0, 3) := by kernel_rfl
theorem fl86_1 : fldA Try.prog 86 1 = some (1, 3) := by kernel_rfl
theorem fl86_2 : fldA Try.prog 86 2 = some (2, 3) := by kernel_rfl
theorem fl86_3 : fldA Try.prog 86 3 = some (3, 3) := by kernel_rfl
theorem fl86_4 : fldA Try.prog 86 4 = some (4, 3) := by kernel_rfl
theorem ze86 : zeroA Try.prog 86 = some [.int .i64 0, .int .i64 0, .int .i64 0, .int .i64 0, .int .i64 0] := by kernel_rfl
theorem sa86 : structA Try.prog 86 = some ([.int .i64 0, .int .i64 0, .int .i64 0, .int .i64 0, .int .i64 0], [(0, 1), (1, 1), (2, 1), (3, 1), (4, 1)]) := by kernel_rfl
theorem kd87 : kindA Try.prog 87 = some (some 5) := by kernel_rfl
theorem co87 : Try.prog.cellsOf 87 = 5 := by kernel_rfl
theorem nz87 : Try.prog.cellsOf 87 ≠ 0 := by rw [co87]; decide
theorem is87 : (Try.prog.underlying 87).isSome = true := by kernel_rfl
theorem inf87 : (Try.prog.info? 87).isSome = true := by kernel_rfl
theorem fl87_0 : fldA Try.prog 87 0 = some (0, 3) := by kernel_rfl
theorem fl87_1 : fldA Try.prog 87 1 = some (1, 3) := by kernel_rfl
theorem fl87_2 : fldA Try.prog 87 2 = some (2, 3) := by kernel_rfl
theorem fl87_3 : fldA Try.prog 87 3 = some (3, 3) := by kernel_rfl
theorem fl87_4 : fldA Try.prog 87 4 = some (4, 3) := by kernel_rfl
theorem ze87 : zeroA Try.prog 87 = some [.int .i64 0, .int .i64 0, .int .i64 0, .int .i64 0, .int .i64 0] := by kernel_rfl
theorem sa87 : structA Try.prog 87 = some ([.int .i64 0, .int .i64 0, .int .i64 0, .int .i64 0, .int .i64 0], [(0, 1), (1, 1), (2, 1), (3, 1), (4, 1)]) := by kernel_rfl
theorem kd88 : kindA Try.prog 88 = some none := by kernel_rfl
theorem co88 : Try.prog.cellsOf 88 = 1 := by kernel_rfl
theorem nz88 : Try.prog.cellsOf 88 ≠ 0 := by rw [co88]; decide
theorem is88 : (Try.prog.underlying 88).isSome = true := by kernel_rfl
theorem inf88 : (Try.prog.info? 88).isSome = true := by kernel_rfl
theorem kd89 : kindA Try.prog 89 = some none := by kernel_rfl
theorem co89 : Try.prog.cellsOf 89 = 1 := by kernel_rfl
theorem nz89 : Try.prog.cellsOf 89 ≠ 0 := by rw [co89]; decide
theorem is89 : (Try.prog.underlying 89).isSome = true := by kernel_rfl
theorem inf89 : (Try.prog.info? 89).isSome = true := by kernel_rfl
theorem el89 : elA Try.prog 89 = some (92, 5) := by kernel_rfl
theorem sl89 : isSlice Try.prog 89 = true := by kernel_rfl
theorem ze89 : zeroA Try.prog 89 = some [.slice none 0 0] := by kernel_rfl
theorem kd90 : kindA Try.prog 90 = some none := by kernel_rfl
theorem co90 : Try.prog.cellsOf 90 = 1 := by kernel_rfl
theorem nz90 : Try.prog.cellsOf 90 ≠ 0 := by rw [co90]; decide
theorem is90 : (Try.prog.underlying 90).isSome = true := by kernel_rfl
theorem inf90 : (Try.prog.info? 90).isSome = true := by kernel_rfl
theorem kd91 : kindA Try.prog 91 = some (some 5) := by kernel_rfl
theorem co91 : Try.prog.cellsOf 91 = 5 := by kernel_rfl
theorem nz91 : Try.prog.cellsOf 91 ≠ 0 := by rw [co91]; decide
theorem is91 : (Try.prog.underlying 91).isSome = true := by kernel_rfl
theorem inf91 : (Try.prog.info? 91).isSome = true := by kernel_rfl
theorem fl91_0 : fldA Try.prog 91 0 = some (0, 3) := by kernel_rfl
theorem fl91_1 : fldA Try.prog 91 1 = some (1, 3) := by kernel_rfl
theorem fl91_2 : fldA Try.prog 91 2 = some (2, 3) := by kernel_rfl
theorem fl91_3 : fldA Try.prog 91 3 = some (3, 3) := by kernel_rfl
theorem fl91_4 : fldA Try.prog 91 4 = some (4, 3) := by kernel_rfl
theorem ze91 : zeroA Try.prog 91 = some [.int .i64 0, .int .i64 0, .int .i64 0, .int .i64 0, .int .i64 0] := by kernel_rfl
theorem sa91 : structA Try.prog 91 = some ([.int .i64 0, .int .i64 0, .int .i64 0, .int .i64 0, .int .i64 0], [(0, 1), (1, 1), (2, 1), (3, 1), (4, 1)]) := by kernel_rfl
theorem kd92 : kindA Try.prog 92 = some (some 5) := by kernel_rfl
theorem co92 : Try.prog.cellsOf 92 = 5 := by kernel_rfl
theorem nz92 : Try.prog.cellsOf 92 ≠ 0 := by rw [co92]; decide
theorem is92 : (Try.prog.underlying 92).isSome = true := by kernel_rfl
theorem inf92 : (Try.prog.info? 92).isSome = true := by kernel_rfl
theorem fl92_0 : fldA Try.prog 92 0 = some (0, 3) := by kernel_rfl
theorem fl92_1 : fldA Try.prog 92 1 = some (1, 3) := by kernel_rfl
theorem fl92_2 : fldA Try.prog 92 2 = some (2, 3) := by kernel_rfl
theorem fl92_3 : fldA Try.prog 92 3 = some (3, 3) := by kernel_rfl
theorem fl92_4 : fldA Try.prog 92 4 = some (4, 3) := by kernel_rfl
theorem ze92 : zeroA Try.prog 92 = some [.int .i64 0, .int .i64 0, .int .i64 0, .int .i64 0, .int .i64 0] := by kernel_rfl
theorem sa92 : structA Try.prog 92 = some ([.int .i64 0, .int .i64 0, .int .i64 0, .int .i64 0, .int .i64 0], [(0, 1), (1, 1), (2, 1), (3, 1), (4, 1)]) := by kernel_rfl
theorem kd93 : kindA Try.prog 93 = some none := by kernel_rfl
theorem co93 : Try.prog.cellsOf 93 = 1 := by kernel_rfl
theorem nz93 : Try.prog.cellsOf 93 ≠ 0 := by rw [co93]; decide
theorem is93 : (Try.prog.underlying 93).isSome = true := by kernel_rfl
theorem inf93 : (Try.prog.info? 93).isSome = true := by kernel_rfl
theorem kd94 : kindA Try.prog 94 = some none := by kernel_rfl
theorem co94 : Try.prog.cellsOf 94 = 1 := by kernel_rfl
theorem nz94 : Try.prog.cellsOf 94 ≠ 0 := by rw [co94]; decide
theorem is94 : (Try.prog.underlying 94).isSome = true := by kernel_rfl
theorem inf94 : (Try.prog.info? 94).isSome = true := by kernel_rfl
theorem kd95 : kindA Try.prog 95 = some none := by kernel_rfl
theorem co95 : Try.prog.cellsOf 95 = 1 := by kernel_rfl
theorem nz95 : Try.prog.cellsOf 95 ≠ 0 := by rw [co95]; decide
theorem is95 : (Try.prog.underlying 95).isSome = true := by kernel_rfl
theorem inf95 : (Try.prog.info? 95).isSome = true := by kernel_rfl
theorem kd96 : kindA Try.prog 96 = some none := by kernel_rfl
theorem co96 : Try.prog.cellsOf 96 = 1 := by kernel_rfl
theorem nz96 : Try.prog.cellsOf 96 ≠ 0 := by rw [co96]; decide
theorem is96 : (Try.prog.underlying 96).isSome = true := by kernel_rfl
theorem inf96 : (Try.prog.info? 96).isSome = true := by kernel_rfl
theorem kd97 : kindA Try.prog 97 = some none := by kernel_rfl
theorem co97 : Try.prog.cellsOf 97 = 1 := by kernel_rfl
theorem nz97 : Try.prog.cellsOf 97 ≠ 0 := by rw [co97]; decide
theorem is97 : (Try.prog.underlying 97).isSome = true := by kernel_rfl
theorem inf97 : (Try.prog.info? 97).isSome = true := by kernel_rfl
theorem kd98 : kindA Try.prog 98 = some none := by kernel_rfl
theorem co98 : Try.prog.cellsOf 98 = 1 := by kernel_rfl
theorem nz98 : Try.prog.cellsOf 98 ≠ 0 := by rw [co98]; decide
theorem is98 : (Try.prog.underlying 98).isSome = true := by kernel_rfl
theorem inf98 : (Try.prog.info? 98).isSome = true := by kernel_rfl
theorem kd99 : kindA Try.prog 99 = some none := by kernel_rfl
theorem co99 : Try.prog.cellsOf 99 = 1 := by kernel_rfl
theorem nz99 : Try.prog.cellsOf 99 ≠ 0 := by rw [co99]; decide
theorem is99 : (Try.prog.underlying 99).isSome = true := by kernel_rfl
theorem inf99 : (Try.prog.info? 99).isSome = true := by kernel_rfl
theorem kd100 : kindA Try.prog 100 = some none := by kernel_rfl
theorem co100 : Try.prog.cellsOf 100 = 1 := by kernel_rfl
theorem nz100 : Try.prog.cellsOf 100 ≠ 0 := by rw [co100]; decide
theorem is100 : (Try.prog.underlying 100).isSome = true := by kernel_rfl
theorem inf100 : (Try.prog.info? 100).isSome = true := by kernel_rfl
theorem kd101 : kindA Try.prog 101 = some none := by kernel_rfl
theorem co101 : Try.prog.cellsOf 101 = 1 := by kernel_rfl
theorem nz101 : Try.prog.cellsOf 101 ≠ 0 := by rw [co101]; decide
theorem is101 : (Try.prog.underlying 101).isSome = true := by kernel_rfl
theorem inf101 : (Try.prog.info? 101).isSome = true := by kernel_rfl
theorem kd102 : kindA Try.prog 102 = some none := by kernel_rfl
theorem co102 : Try.prog.cellsOf 102 = 1 := by kernel_rfl
theorem nz102 : Try.prog.cellsOf 102 ≠ 0 := by rw [co102]; decide
theorem is102 : (Try.prog.underlying 102).isSome = true := by kernel_rfl
theorem inf102 : (Try.prog.info? 102).isSome = true := by kernel_rfl
theorem kd103 : kindA Try.prog 103 = some none := by kernel_rfl
theorem co103 : Try.prog.cellsOf 103 = 1 := by kernel_rfl
theorem nz103 : Try.prog.cellsOf 103 ≠ 0 := by rw [co103]; decide
theorem is103 : (Try.prog.underlying 103).isSome = true := by kernel_rfl
theorem inf103 : (Try.prog.info? 103).isSome = true := by kernel_rfl
theorem kd104 : kindA Try.prog 104 = some (some 2) := by kernel_rfl
theorem co104 : Try.prog.cellsOf 104 = 2 := by kernel_rfl
theorem nz104 : Try.prog.cellsOf 104 ≠ 0 := by rw [co104]; decide
theorem is104 : (Try.prog.underlying 104).isSome = true := by kernel_rfl
theorem inf104 : (Try.prog.info? 104).isSome = true := by kernel_rfl
theorem fl104_0 : fldA Try.prog 104 0 = some (0, 3) := by kernel_rfl
theorem fl104_1 : fldA Try.prog 104 1 = some (1, 3) := by kernel_rfl
theorem ze104 : zeroA Try.prog 104 = some [.int .i64 0, .int .i64 0] := by kernel_rfl
theorem sa104 : structA Try.prog 104 = some ([.int .i64 0, .int .i64 0], [(0, 1), (1, 1)]) := by kernel_rfl
theorem kd105 : kindA Try.prog 105 = some (some 2) := by kernel_rfl
theorem co105 : Try.prog.cellsOf 105 = 2 := by kernel_rfl
theorem nz105 : Try.prog.cellsOf 105 ≠ 0 := by rw [co105]; decide
theorem is105 : (Try.prog.underlying 105).isSome = true := by kernel_rfl
theorem inf105 : (Try.prog.info? 105).isSome = true := by kernel_rfl
theorem fl105_0 : fldA Try.prog 105 0 = some (0, 3) := by kernel_rfl
theorem fl105_1 : fldA Try.prog 105 1 = some (1, 3) := by kernel_rfl
theorem ze105 : zeroA Try.prog 105 = some [.int .i64 0, .int .i64 0] := by kernel_rfl
theorem sa105 : structA Try.prog 105 = some ([.int .i64 0, .int .i64 0], [(0, 1), (1, 1)]) := by kernel_rfl
theorem kd106 : kindA Try.prog 106 = some (some 7) := by kernel_rfl
theorem co106 : Try.prog.cellsOf 106 = 7 := by kernel_rfl
theorem nz106 : Try.prog.cellsOf 106 ≠ 0 := by rw [co106]; decide
theorem is106 : (Try.prog.underlying 106).isSome = true := by kernel_rfl
theorem inf106 : (Try.prog.info? 106).isSome = true := by kernel_rfl
theorem fl106_0 : fldA Try.prog 106 0 = some (0, 3) := by kernel_rfl
theorem fl106_1 : fldA Try.prog 106 1 = some (1, 3) := by kernel_rfl
theorem fl106_2 : fldA Try.prog 106 2 = some (2, 3) := by kernel_rfl
theorem fl106_3 : fldA Try.prog 106 3 = some (3, 3) := by kernel_rfl
theorem fl106_4 : fldA Try.prog 106 4 = some (4, 3) := by kernel_rfl
theorem fl106_5 : fldA Try.prog 106 5 = some (5, 3) := by kernel_rfl
theorem fl106_6 : fldA Try.prog 106 6 = some (6, 3) := by kernel_rfl
theorem ze106 : zeroA Try.prog 106 = some [.int .i64 0, .int .i64 0, .int .i64 0, .int .i64 0, .int .i64 0, .int .i64 0, .int .i64 0] := by kernel_rfl
theorem sa106 : structA Try.prog 106 = some ([.int .i64 0, .int .i64 0, .int .i64 0, .int .i64 0, .int .i64 0, .int .i64 0, .int .i64 0], [(0, 1), (1, 1), (2, 1), (3, 1), (4, 1), (5, 1), (6, 1)]) := by kernel_rfl
theorem kd107 : kindA Try.prog 107 = some (some 7) := by kernel_rfl
theorem co107 : Try.prog.cellsOf 107 = 7 := by kernel_rfl
theorem nz107 : Try.prog.cellsOf 107 ≠ 0 := by rw [co107]; decide
theorem is107 : (Try.prog.underlying 107).isSome = true := by kernel_rfl
theorem inf107 : (Try.prog.info? 107).isSome = true := by kernel_rfl
theorem fl107_0 : fldA Try.prog 107 0 = some (0, 3) := by kernel_rfl
theorem fl107_1 : fldA Try.prog 107 1 = some (1, 3) := by kernel_rfl
theorem fl107_2 : fldA Try.prog 107 2 = some (2, 3) := by kernel_rfl
theorem fl107_3 : fldA Try.prog 107 3 = some (3, 3) := by kernel_rfl
theorem fl107_4 : fldA Try.prog 107 4 = some (4, 3) := by kernel_rfl
theorem fl107_5 : fldA Try.prog 107 5 = some (5, 3) := by kernel_rfl
theorem fl107_6 : fldA Try.prog 107 6 = some (6, 3) := by kernel_rfl
theorem ze107 : zeroA Try.prog 107 = some [.int .i64 0, .int .i64 0, .int .i64 0, .int .i64 0, .int .i64 0, .int .i64 0, .int .i64 0] := by kernel_rfl
theorem sa107 : structA Try.prog 107 = some ([.int .i64 0, .int .i64 0, .int .i64 0, .int .i64 0, .int .i64 0, .int .i64 0, .int .i64 0], [(0, 1), (1, 1), (2, 1), (3, 1), (4, 1), (5, 1), (6, 1)]) := by kernel_rfl
theorem kd108 : kindA Try.prog 108 = some none := by kernel_rfl
theorem co108 : Try.prog.cellsOf 108 = 1 := by kernel_rfl
theorem nz108 : Try.prog.cellsOf 108 ≠ 0 := by rw [co108]; decide
theorem is108 : (Try.prog.underlying 108).isSome = true := by kernel_rfl
theorem inf108 : (Try.prog.info? 108).isSome = true := by kernel_rfl
theorem kd109 : kindA Try.prog 109 = some none := by kernel_rfl
theorem co109 : Try.prog.cellsOf 109 = 1 := by kernel_rfl
theorem nz109 : Try.prog.cellsOf 109 ≠ 0 := by rw [co109]; decide
theorem is109 : (Try.prog.underlying 109).isSome = true := by kernel_rfl
theorem inf109 : (Try.prog.info? 109).isSome = true := by kernel_rfl
theorem kd110 : kindA Try.prog 110 = some none := by kernel_rfl
theorem co110 : Try.prog.cellsOf 110 = 1 := by kernel_rfl
theorem nz110 : Try.prog.cellsOf 110 ≠ 0 := by rw [co110]; decide
theorem is110 : (Try.prog.underlying 110).isSome = true := by kernel_rfl
theorem inf110 : (Try.prog.info? 110).isSome = true := by kernel_rfl
theorem kd111 : kindA Try.prog 111 = some none := by kernel_rfl
theorem co111 : Try.prog.cellsOf 111 = 1 := by kernel_rfl
theorem nz111 : Try.prog.cellsOf 111 ≠ 0 := by rw [co111]; decide
theorem is111 : (Try.prog.underlying 111).isSome = true := by kernel_rfl
theorem inf111 : (Try.prog.info? 111).isSome = true := by kernel_rfl
theorem kd113 : kindA Try.prog 113 = some none := by kernel_rfl
theorem co113 : Try.prog.cellsOf 113 = 1 := by kernel_rfl
theorem nz113 : Try.prog.cellsOf 113 ≠ 0 := by rw [co113]; decide
theorem is113 : (Try.prog.underlying 113).isSome = true := by kernel_rfl
theorem inf113 : (Try.prog.info? 113).isSome = true := by kernel_rfl
theorem kd114 : kindA Try.prog 114 = some none := by kernel_rfl
theorem co114 : Try.prog.cellsOf 114 = 1 := by kernel_rfl
theorem nz114 : Try.prog.cellsOf 114 ≠ 0 := by rw [co114]; decide
theorem is114 : (Try.prog.underlying 114).isSome = true := by kernel_rfl
theorem inf114 : (Try.prog.info? 114).isSome = true := by kernel_rfl
theorem kd115 : kindA Try.prog 115 = some none := by kernel_rfl
theorem co115 : Try.prog.cellsOf 115 = 1 := by kernel_rfl
theorem nz115 : Try.prog.cellsOf 115 ≠ 0 := by rw [co115]; decide
theorem is115 : (Try.prog.underlying 115).isSome = true := by kernel_rfl
theorem inf115 : (Try.prog.info? 115).isSome = true := by kernel_rfl
theorem kd116 : kindA Try.prog 116 = some none := by kernel_rfl
theorem co116 : Try.prog.cellsOf 116 = 1 := by kernel_rfl
theorem nz116 : Try.prog.cellsOf 116 ≠ 0 := by rw [co116]; decide
theorem is116 : (Try.prog.underlying 116).isSome = true := by kernel_rfl
theorem inf116 : (Try.prog.info? 116).isSome = true := by kernel_rfl
theorem kd117 : kindA Try.prog 117 = some none := by kernel_rfl
theorem co117 : Try.prog.cellsOf 117 = 1 := by kernel_rfl
theorem nz117 : Try.prog.cellsOf 117 ≠ 0 := by rw [co117]; decide
theorem is117 : (Try.prog.underlying 117).isSome = true := by kernel_rfl
theorem inf117 : (Try.prog.info? 117).isSome = true := by kernel_rfl
theorem kd118 : kindA Try.prog 118 = some none := by kernel_rfl
theorem co118 : Try.prog.cellsOf 118 = 1 := by kernel_rfl
theorem nz118 : Try.prog.cellsOf 118 ≠ 0 := by rw [co118]; decide
theorem is118 : (Try.prog.underlying 118).isSome = true := by kernel_rfl
theorem inf118 : (Try.prog.info? 118).isSome = true := by kernel_rfl
theorem kd119 : kindA Try.prog 119 = some none := by kernel_rfl
theorem co119 : Try.prog.cellsOf 119 = 1 := by kernel_rfl
theorem nz119 : Try.prog.cellsOf 119 ≠ 0 := by rw [co119]; decide
theorem is119 : (Try.prog.underlying 119).isSome = true := by kernel_rfl
theorem inf119 : (Try.prog.info? 119).isSome = true := by kernel_rfl
theorem kd120 : kindA Try.prog 120 = some none := by kernel_rfl
theorem co120 : Try.prog.cellsOf 120 = 1 := by kernel_rfl
theorem nz120 : Try.prog.cellsOf 120 ≠ 0 := by rw [co120]; decide
theorem is120 : (Try.prog.underlying 120).isSome = true := by kernel_rfl
theorem inf120 : (Try.prog.info? 120).isSome = true := by kernel_rfl
theorem kd121 : kindA Try.prog 121 = some none := by kernel_rfl
theorem co121 : Try.prog.cellsOf 121 = 1 := by kernel_rfl
theorem nz121 : Try.prog.cellsOf 121 ≠ 0 := by rw [co121]; decide
theorem is121 : (Try.prog.underlying 121).isSome = true := by kernel_rfl
theorem inf121 : (Try.prog.info? 121).isSome = true := by kernel_rfl
theorem kd122 : kindA Try.prog 122 = some (some 4) := by kernel_rfl
theorem co122 : Try.prog.cellsOf 122 = 4 := by kernel_rfl
theorem nz122 : Try.prog.cellsOf 122 ≠ 0 := by rw [co122]; decide
theorem is122 : (Try.prog.underlying 122).isSome = true := by kernel_rfl
theorem inf122 : (Try.prog.info? 122).isSome = true := by kernel_rfl
theorem fl122_0 : fldA Try.prog 122 0 = some (0, 3) := by kernel_rfl
theorem fl122_1 : fldA Try.prog 122 1 = some (1, 3) := by kernel_rfl
theorem fl122_2 : fldA Try.prog 122 2 = some (2, 3) := by kernel_rfl
theorem fl122_3 : fldA Try.prog 122 3 = some (3, 3) := by kernel_rfl
theorem ze122 : zeroA Try.prog 122 = some [.int .i64 0, .int .i64 0, .int .i64 0, .int .i64 0] := by kernel_rfl
theorem sa122 : structA Try.prog 122 = some ([.int .i64 0, .int .i64 0, .int .i64 0, .int .i64 0], [(0, 1), (1, 1), (2, 1), (3, 1)]) := by kernel_rfl
theorem kd123 : kindA Try.prog 123 = some (some 4) := by kernel_rfl
theorem co123 : Try.prog.cellsOf 123 = 4 := by kernel_rfl
theorem nz123 : Try.prog.cellsOf 123 ≠ 0 := by rw [co123]; decide
theorem is123 : (Try.prog.underlying 123).isSome = true := by kernel_rfl
theorem inf123 : (Try.prog.info? 123).isSome = true := by kernel_rfl
theorem fl123_0 : fldA Try.prog 123 0 = some (0, 3) := by kernel_rfl
theorem fl123_1 : fldA Try.prog 123 1 = some (1, 3) := by kernel_rfl
theorem fl123_2 : fldA Try.prog 123 2 = some (2, 3) := by kernel_rfl
theorem fl123_3 : fldA Try.prog 123 3 = some (3, 3) := by kernel_rfl
theorem ze123 : zeroA Try.prog 123 = some [.int .i64 0, .int .i64 0, .int .i64 0, .int .i64 0] := by kernel_rfl
theorem sa123 : structA Try.prog 123 = some ([.int .i64 0, .int .i64 0, .int .i64 0, .int .i64 0], [(0, 1), (1, 1), (2, 1), (3, 1)]) := by kernel_rfl
theorem kd124 : kindA Try.prog 124 = some (some 3) := by kernel_rfl
theorem co124 : Try.prog.cellsOf 124 = 3 := by kernel_rfl
theorem nz124 : Try.prog.cellsOf 124 ≠ 0 := by rw [co124]; decide
theorem is124 : (Try.prog.underlying 124).isSome = true := by kernel_rfl
theorem inf124 : (Try.prog.info? 124).isSome = true := by kernel_rfl
theorem fl124_0 : fldA Try.prog 124 0 = some (0, 3) := by kernel_rfl
theorem fl124_1 : fldA Try.prog 124 1 = some (1, 3) := by kernel_rfl
theorem fl124_2 : fldA Try.prog 124 2 = some (2, 3) := by kernel_rfl
theorem ze124 : zeroA Try.prog 124 = some [.int .i64 0, .int .i64 0, .int .i64 0] := by kernel_rfl
theorem sa124 : structA Try.prog 124 = some ([.int .i64 0, .int .i64 0, .int .i64 0], [(0, 1), (1, 1), (2, 1)]) := by kernel_rfl
theorem kd125 : kindA Try.prog 125 = some (some 3) := by kernel_rfl
theorem co125 : Try.prog.cellsOf 125 = 3 := by kernel_rfl
theorem nz125 : Try.prog.cellsOf 125 ≠ 0 := by rw [co125]; decide
theorem is125 : (Try.prog.underlying 125).isSome = true := by kernel_rfl
theorem inf125 : (Try.prog.info? 125).isSome = true := by kernel_rfl
theorem fl125_0 : fldA Try.prog 125 0 = some (0, 3) := by kernel_rfl
theorem fl125_1 : fldA Try.prog 125 1 = some (1, 3) := by kernel_rfl
theorem fl125_2 : fldA Try.prog 125 2 = some (2, 3) := by kernel_rfl
theorem ze125 : zeroA Try.prog 125 = some [.int .i64 0, .int .i64 0, .int .i64 0] := by kernel_rfl
theorem sa125 : structA Try.prog 125 = some ([.int .i64 0, .int .i64 0, .int .i64 0], [(0, 1), (1, 1), (2, 1)]) := by kernel_rfl
theorem kd126 : kindA Try.prog 126 = some none := by kernel_rfl
theorem co126 : Try.prog.cellsOf 126 = 1 := by kernel_rfl
theorem nz126 : Try.prog.cellsOf 126 ≠ 0 := by rw [co126]; decide
theorem is126 : (Try.prog.underlying 126).isSome = true := by kernel_rfl
theorem inf126 : (Try.prog.info? 126).isSome = true := by kernel_rfl
theorem kd127 : kindA Try.prog 127 = some (some 3) := by kernel_rfl
theorem co127 : Try.prog.cellsOf 127 = 3 := by kernel_rfl
theorem nz127 : Try.prog.cellsOf 127 ≠ 0 := by rw [co127]; decide
theorem is127 : (Try.prog.underlying 127).isSome = true := by kernel_rfl
theorem inf127 : (Try.prog.info? 127).isSome = true := by kernel_rfl
theorem fl127_0 : fldA Try.prog 127 0 = some (0, 3) := by kernel_rfl
theorem fl127_1 : fldA Try.prog 127 1 = some (1, 3) := by kernel_rfl
theorem fl127_2 : fldA Try.prog 127 2 = some (2, 3) := by kernel_rfl
theorem ze127 : zeroA Try.prog 127 = some [.int .i64 0, .int .i64 0, .int .i64 0] := by kernel_rfl
theorem sa127 : structA Try.prog 127 = some ([.int .i64 0, .int .i64 0, .int .i64 0], [(0, 1), (1, 1), (2, 1)]) := by kernel_rfl
theorem kd128 : kindA Try.prog 128 = some none := by kernel_rfl
theorem co128 : Try.prog.cellsOf 128 = 1 := by kernel_rfl
theorem nz128 : Try.prog.cellsOf 128 ≠ 0 := by rw [co128]; decide
theorem is128 : (Try.prog.underlying 128).isSome = true := by kernel_rfl
theorem inf128 : (Try.prog.info? 128).isSome = true := by kernel_rfl
theorem kd129 : kindA Try.prog 129 = some none := by kernel_rfl
theorem co129 : Try.prog.cellsOf 129 = 1 := by kernel_rfl
theorem nz129 : Try.prog.cellsOf 129 ≠ 0 := by rw [co129]; decide
theorem is129 : (Try.prog.underlying 129).isSome = true := by kernel_rfl
theorem inf129 : (Try.prog.info? 129).isSome = true := by kernel_rfl
theorem kd130 : kindA Try.prog 130 = some none := by kernel_rfl
theorem co130 : Try.prog.cellsOf 130 = 1 := by kernel_rfl
theorem nz130 : Try.prog.cellsOf 130 ≠ 0 := by rw [co130]; decide
theorem is130 : (Try.prog.underlying 130).isSome = true := by kernel_rfl
theorem inf130 : (Try.prog.info? 130).isSome = true := by kernel_rfl
theorem kd131 : kindA Try.prog 131 = some none := by kernel_rfl
theorem co131 : Try.prog.cellsOf 131 = 1 := by kernel_rfl
theorem nz131 : Try.prog.cellsOf 131 ≠ 0 := by rw [co131]; decide
theorem is131 : (Try.prog.underlying 131).isSome = true := by kernel_rfl
theorem inf131 : (Try.prog.info? 131).isSome = true := by kernel_rfl
theorem kd132 : kindA Try.prog 132 = some none := by kernel_rfl
theorem co132 : Try.prog.cellsOf 132 = 1 := by kernel_rfl
theorem nz132 : Try.prog.cellsOf 132 ≠ 0 := by rw [co132]; decide
theorem is132 : (Try.prog.underlying 132).isSome = true := by kernel_rfl
theorem inf132 : (Try.prog.info? 132).isSome = true := by kernel_rfl
theorem kd133 : kindA Try.prog 133 = some (some 4) := by kernel_rfl
theorem co133 : Try.prog.cellsOf 133 = 4 := by kernel_rfl
theorem nz133 : Try.prog.cellsOf 133 ≠ 0 := by rw [co133]; decide
theorem is133 : (Try.prog.underlying 133).isSome = true := by kernel_rfl
theorem inf133 : (Try.prog.info? 133).isSome = true := by kernel_rfl
theorem fl133_0 : fldA Try.prog 133 0 = some (0, 3) := by kernel_rfl
theorem fl133_1 : fldA Try.prog 133 1 = some (1, 3) := by kernel_rfl
theorem fl133_2 : fldA Try.prog 133 2 = some (2, 3) := by kernel_rfl
theorem fl133_3 : fldA Try.prog 133 3 = some (3, 3) := by kernel_rfl
theorem ze133 : zeroA Try.prog 133 = some [.int .i64 0, .int .i64 0, .int .i64 0, .int .i64 0] := by kernel_rfl
theorem sa133 : structA Try.prog 133 = some ([.int .i64 0, .int .i64 0, .int .i64 0, .int .i64 0], [(0, 1), (1, 1), (2, 1), (3, 1)]) := by kernel_rfl
theorem kd134 : kindA Try.prog 134 = some (some 4) := by kernel_rfl
theorem co134 : Try.prog.cellsOf 134 = 4 := by kernel_rfl
theorem nz134 : Try.prog.cellsOf 134 ≠ 0 := by rw [co134]; decide
theorem is134 : (Try.prog.underlying 134).isSome = true := by kernel_rfl
theorem inf134 : (Try.prog.info? 134).isSome = true := by kernel_rfl
theorem fl134_0 : fldA Try.prog 134 0 = some (0, 3) := by kernel_rfl
theorem fl134_1 : fldA Try.prog 134 1 = some (1, 3) := by kernel_rfl
theorem fl134_2 : fldA Try.prog 134 2 = some (2, 3) := by kernel_rfl
theorem fl134_3 : fldA Try.prog 134 3 = some (3, 3) := by kernel_rfl
theorem ze134 : zeroA Try.prog 134 = some [.int .i64 0, .int .i64 0, .int .i64 0, .int .i64 0] := by kernel_rfl
theorem sa134 : structA Try.prog 134 = some ([.int .i64 0, .int .i64 0, .int .i64 0, .int .i64 0], [(0, 1), (1, 1), (2, 1), (3, 1)]) := by kernel_rfl
theorem kd135 : kindA Try.prog 135 = some none := by kernel_rfl
theorem co135 : Try.prog.cellsOf 135 = 1 := by kernel_rfl
theorem nz135 : Try.prog.cellsOf 135 ≠ 0 := by rw [co135]; decide
theorem is135 : (Try.prog.underlying 135).isSome = true := by kernel_rfl
theorem inf135 : (Try.prog.info? 135).isSome = true := by kernel_rfl
theorem kd136 : kindA Try.prog 136 = some none := by kernel_rfl
theorem co136 : Try.prog.cellsOf 136 = 1 := by kernel_rfl
theorem nz136 : Try.prog.cellsOf 136 ≠ 0 := by rw [co136]; decide
theorem is136 : (Try.prog.underlying 136).isSome = true := by kernel_rfl
theorem inf136 : (Try.prog.info? 136).isSome = true := by kernel_rfl
theorem kd137 : kindA Try.prog 137 = some (some 4) := by kernel_rfl
theorem co137 : Try.prog.cellsOf 137 = 4 := by kernel_rfl
theorem nz137 : Try.prog.cellsOf 137 ≠ 0 := by rw [co137]; decide
theorem is137 : (Try.prog.underlying 137).isSome = true := by kernel_rfl
theorem inf137 : (Try.prog.info? 137).isSome = true := by kernel_rfl
theorem fl137_0 : fldA Try.prog 137 0 = some (0, 3) := by kernel_rfl
theorem fl137_1 : fldA Try.prog 137 1 = some (1, 3) := by kernel_rfl
theorem fl137_2 : fldA Try.prog 137 2 = some (2, 3) := by kernel_rfl
theorem fl137_3 : fldA Try.prog 137 3 = some (3, 3) := by kernel_rfl
theorem ze137 : zeroA Try.prog 137 = some [.int .i64 0, .int .i64 0, .int .i64 0, .int .i64 0] := by kernel_rfl
theorem sa137 : structA Try.prog 137 = some ([.int .i64 0, .int .i64 0, .int .i64 0, .int .i64 0], [(0, 1), (1, 1), (2, 1), (3, 1)]) := by kernel_rfl
theorem kd138 : kindA Try.prog 138 = some none := by kernel_rfl
theorem co138 : Try.prog.cellsOf 138 = 1 := by kernel_rfl
theorem nz138 : Try.prog.cellsOf 138 ≠ 0 := by rw [co138]; decide
theorem is138 : (Try.prog.underlying 138).isSome = true := by kernel_rfl
theorem inf138 : (Try.prog.info? 138).isSome = true := by kernel_rfl
theorem kd139 : kindA Try.prog 139 = some none := by kernel_rfl
theorem co139 : Try.prog.cellsOf 139 = 1 := by kernel_rfl
theorem nz139 : Try.prog.cellsOf 139 ≠ 0 := by rw [co139]; decide
theorem is139 : (Try.prog.underlying 139).isSome = true := by kernel_rfl
theorem inf139 : (Try.prog.info? 139).isSome = true := by kernel_rfl
theorem kd140 : kindA Try.prog 140 = some none := by kernel_rfl
theorem co140 : Try.prog.cellsOf 140 = 1 := by kernel_rfl
theorem nz140 : Try.prog.cellsOf 140 ≠ 0 := by rw [co140]; decide
theorem is140 : (Try.prog.underlying 140).isSome = true := by kernel_rfl
theorem inf140 : (Try.prog.info? 140).isSome = true := by kernel_rfl
theorem kd141 : kindA Try.prog 141 = some none := by kernel_rfl
theorem co141 : Try.prog.cellsOf 141 = 1 := by kernel_rfl
theorem nz141 : Try.prog.cellsOf 141 ≠ 0 := by rw [co141]; decide
theorem is141 : (Try.prog.underlying 141).isSome = true := by kernel_rfl
theorem inf141 : (Try.prog.info? 141).isSome = true := by kernel_rfl
theorem kd142 : kindA Try.prog 142 = some (some 3) := by kernel_rfl
theorem co142 : Try.prog.cellsOf 142 = 3 := by kernel_rfl
theorem nz142 : Try.prog.cellsOf 142 ≠ 0 := by rw [co142]; decide
theorem is142 : (Try.prog.underlying 142).isSome = true := by kernel_rfl
theorem inf142 : (Try.prog.info? 142).isSome = true := by kernel_rfl
theorem fl142_0 : fldA Try.prog 142 0 = some (0, 105) := by kernel_rfl
theorem fl142_1 : fldA Try.prog 142 1 = some (2, 3) := by kernel_rfl
theorem ze142 : zeroA Try.prog 142 = some [.int .i64 0, .int .i64 0, .int .i64 0] := by kernel_rfl
theorem sa142 : structA Try.prog 142 = some ([.int .i64 0, .int .i64 0, .int .i64 0], [(0, 2), (2, 1)]) := by kernel_rfl
theorem kd143 : kindA Try.prog 143 = some (some 3) := by kernel_rfl
theorem co143 : Try.prog.cellsOf 143 = 3 := by kernel_rfl
theorem nz143 : Try.prog.cellsOf 143 ≠ 0 := by rw [co143]; decide
theorem is143 : (Try.prog.underlying 143).isSome = true := by kernel_rfl
theorem inf143 : (Try.prog.info? 143).isSome = true := by kernel_rfl
theorem fl143_0 : fldA Try.prog 143 0 = some (0, 105) := by kernel_rfl
theorem fl143_1 : fldA Try.prog 143 1 = some (2, 3) := by kernel_rfl
theorem ze143 : zeroA Try.prog 143 = some [.int .i64 0, .int .i64 0, .int .i64 0] := by kernel_rfl
theorem sa143 : structA Try.prog 143 = some ([.int .i64 0, .int .i64 0, .int .i64 0], [(0, 2), (2, 1)]) := by kernel_rfl
theorem kd144 : kindA Try.prog 144 = some (some 7) := by kernel_rfl
theorem co144 : Try.prog.cellsOf 144 = 7 := by kernel_rfl
theorem nz144 : Try.prog.cellsOf 144 ≠ 0 := by rw [co144]; decide
theorem is144 : (Try.prog.underlying 144).isSome = true := by kernel_rfl
theorem inf144 : (Try.prog.info? 144).isSome = true := by kernel_rfl
theorem fl144_0 : fldA Try.prog 144 0 = some (0, 3) := by kernel_rfl
theorem fl144_1 : fldA Try.prog 144 1 = some (1, 3) := by kernel_rfl
theorem fl144_2 : fldA Try.prog 144 2 = some (2, 3) := by kernel_rfl
theorem fl144_3 : fldA Try.prog 144 3 = some (3, 3) := by kernel_rfl
theorem fl144_4 : fldA Try.prog 144 4 = some (4, 3) := by kernel_rfl
theorem fl144_5 : fldA Try.prog 144 5 = some (5, 4) := by kernel_rfl
theorem fl144_6 : fldA Try.prog 144 6 = some (6, 3) := by kernel_rfl
theorem ze144 : zeroA Try.prog 144 = some [.int .i64 0, .int .i64 0, .int .i64 0, .int .i64 0, .int .i64 0, .bool false, .int .i64 0] := by kernel_rfl
theorem sa144 : structA Try.prog 144 = some ([.int .i64 0, .int .i64 0, .int .i64 0, .int .i64 0, .int .i64 0, .bool false, .int .i64 0], [(0, 1), (1, 1), (2, 1), (3, 1), (4, 1), (5, 1), (6, 1)]) := by kernel_rfl
theorem kd145 : kindA Try.prog 145 = some (some 7) := by kernel_rfl
theorem co145 : Try.prog.cellsOf 145 = 7 := by kernel_rfl
theorem nz145 : Try.prog.cellsOf 145 ≠ 0 := by rw [co145]; decide
theorem is145 : (Try.prog.underlying 145).isSome = true := by kernel_rfl
theorem inf145 : (Try.prog.info? 145).isSome = true := by kernel_rfl
theorem fl145_0 : fldA Try.prog 145 0 = some (0, 3) := by kernel_rfl
theorem fl145_1 : fldA Try.prog 145 1 = some (1, 3) := by kernel_rfl
theorem fl145_2 : fldA Try.prog 145 2 = some (2, 3) := by kernel_rfl
theorem fl145_3 : fldA Try.prog 145 3 = some (3, 3) := by kernel_rfl
theorem fl145_4 : fldA Try.prog 145 4 = some (4, 3) := by kernel_rfl
theorem fl145_5 : fldA Try.prog 145 5 = some (5, 4) := by kernel_rfl
theorem fl145_6 : fldA Try.prog 145 6 = some (6, 3) := by kernel_rfl
theorem ze145 : zeroA Try.prog 145 = some [.int .i64 0, .int .i64 0, .int .i64 0, .int .i64 0, .int .i64 0, .bool false, .int .i64 0] := by kernel_rfl
theorem sa145 : structA Try.prog 145 = some ([.int .i64 0, .int .i64 0, .int .i64 0, .int .i64 0, .int .i64 0, .bool false, .int .i64 0], [(0, 1), (1, 1), (2, 1), (3, 1), (4, 1), (5, 1), (6, 1)]) := by kernel_rfl
theorem kd146 : kindA Try.prog 146 = some (some 5) := by kernel_rfl
theorem co146 : Try.prog.cellsOf 146 = 5 := by kernel_rfl
theorem nz146 : Try.prog.cellsOf 146 ≠ 0 := by rw [co146]; decide
theorem is146 : (Try.prog.underlying 146).isSome = true := by kernel_rfl
theorem inf146 : (Try.prog.info? 146).isSome = true := by kernel_rfl
theorem fl146_0 : fldA Try.prog 146 0 = some (0, 3) := by kernel_rfl
theorem fl146_1 : fldA Try.prog 146 1 = some (1, 3) := by kernel_rfl
theorem fl146_2 : fldA Try.prog 146 2 = some (2, 3) := by kernel_rfl
theorem fl146_3 : fldA Try.prog 146 3 = some (3, 3) := by kernel_rfl
theorem fl146_4 : fldA Try.prog 146 4 = some (4, 3) := by kernel_rfl
theorem ze146 : zeroA Try.prog 146 = some [.int .i64 0, .int .i64 0, .int .i64 0, .int .i64 0, .int .i64 0] := by kernel_rfl
theorem sa146 : structA Try.prog 146 = some ([.int .i64 0, .int .i64 0, .int .i64 0, .int .i64 0, .int .i64 0], [(0, 1), (1, 1), (2, 1), (3, 1), (4, 1)]) := by kernel_rfl
theorem kd147 : kindA Try.prog 147 = some (some 5) := by kernel_rfl
theorem co147 : Try.prog.cellsOf 147 = 5 := by kernel_rfl
theorem nz147 : Try.prog.cellsOf 147 ≠ 0 := by rw [co147]; decide
theorem is147 : (Try.prog.underlying 147).isSome = true := by kernel_rfl
theorem inf147 : (Try.prog.info? 147).isSome = true := by kernel_rfl
theorem fl147_0 : fldA Try.prog 147 0 = some (0, 3) := by kernel_rfl
theorem fl147_1 : fldA Try.prog 147 1 = some (1, 3) := by kernel_rfl
theorem fl147_2 : fldA Try.prog 147 2 = some (2, 3) := by kernel_rfl
theorem fl147_3 : fldA Try.prog 147 3 = some (3, 3) := by kernel_rfl
theorem fl147_4 : fldA Try.prog 147 4 = some (4, 3) := by kernel_rfl
theorem ze147 : zeroA Try.prog 147 = some [.int .i64 0, .int .i64 0, .int .i64 0, .int .i64 0, .int .i64 0] := by kernel_rfl
theorem sa147 : structA Try.prog 147 = some ([.int .i64 0, .int .i64 0, .int .i64 0, .int .i64 0, .int .i64 0], [(0, 1), (1, 1), (2, 1), (3, 1), (4, 1)]) := by kernel_rfl
theorem kd148 : kindA Try.prog 148 = some none := by kernel_rfl
theorem co148 : Try.prog.cellsOf 148 = 1 := by kernel_rfl
theorem nz148 : Try.prog.cellsOf 148 ≠ 0 := by rw [co148]; decide
theorem is148 : (Try.prog.underlying 148).isSome = true := by kernel_rfl
theorem inf148 : (Try.prog.info? 148).isSome = true := by kernel_rfl
theorem kd149 : kindA Try.prog 149 = some (some 7) := by kernel_rfl
theorem co149 : Try.prog.cellsOf 149 = 7 := by kernel_rfl
theorem nz149 : Try.prog.cellsOf 149 ≠ 0 := by rw [co149]; decide
theorem is149 : (Try.prog.underlying 149).isSome = true := by kernel_rfl
theorem inf149 : (Try.prog.info? 149).isSome = true := by kernel_rfl
theorem fl149_0 : fldA Try.prog 149 0 = some (0, 3) := by kernel_rfl
theorem fl149_1 : fldA Try.prog 149 1 = some (1, 3) := by kernel_rfl
theorem fl149_2 : fldA Try.prog 149 2 = some (2, 3) := by kernel_rfl
theorem fl149_3 : fldA Try.prog 149 3 = some (3, 3) := by kernel_rfl
theorem fl149_4 : fldA Try.prog 149 4 = some (4, 3) := by kernel_rfl
theorem fl149_5 : fldA Try.prog 149 5 = some (5, 3) := by kernel_rfl
theorem fl149_6 : fldA Try.prog 149 6 = some (6, 3) := by kernel_rfl
theorem ze149 : zeroA Try.prog 149 = some [.int .i64 0, .int .i64 0, .int .i64 0, .int .i64 0, .int .i64 0, .int .i64 0, .int .i64 0] := by kernel_rfl
theorem sa149 : structA Try.prog 149 = some ([.int .i64 0, .int .i64 0, .int .i64 0, .int .i64 0, .int .i64 0, .int .i64 0, .int .i64 0], [(0, 1), (1, 1), (2, 1), (3, 1), (4, 1), (5, 1), (6, 1)]) := by kernel_rfl
theorem kd150 : kindA Try.prog 150 = some none := by kernel_rfl
theorem co150 : Try.prog.cellsOf 150 = 1 := by kernel_rfl
theorem nz150 : Try.prog.cellsOf 150 ≠ 0 := by rw [co150]; decide
theorem is150 : (Try.prog.underlying 150).isSome = true := by kernel_rfl
theorem inf150 : (Try.prog.info? 150).isSome = true := by kernel_rfl
theorem kd151 : kindA Try.prog 151 = some (some 7) := by kernel_rfl
theorem co151 : Try.prog.cellsOf 151 = 7 := by kernel_rfl
theorem nz151 : Try.prog.cellsOf 151 ≠ 0 := by rw [co151]; decide
theorem is151 : (Try.prog.underlying 151).isSome = true := by kernel_rfl
theorem inf151 : (Try.prog.info? 151).isSome = true := by kernel_rfl
theorem fl151_0 : fldA Try.prog 151 0 = some (0, 3) := by kernel_rfl
theorem fl151_1 : fldA Try.prog 151 1 = some (1, 3) := by kernel_rfl
theorem fl151_2 : fldA Try.prog 151 2 = some (2, 3) := by kernel_rfl
theorem fl151_3 : fldA Try.prog 151 3 = some (3, 3) := by kernel_rfl
theorem fl151_4 : fldA Try.prog 151 4 = some (4, 3) := by kernel_rfl
theorem fl151_5 : fldA Try.prog 151 5 = some (5, 4) := by kernel_rfl
theorem fl151_6 : fldA Try.prog 151 6 = some (6, 3) := by kernel_rfl
theorem ze151 : zeroA Try.prog 151 = some [.int .i64 0, .int .i64 0, .int .i64 0, .int .i64 0, .int .i64 0, .bool false, .int .i64 0] := by kernel_rfl
theorem sa151 : structA Try.prog 151 = some ([.int .i64 0, .int .i64 0, .int .i64 0, .int .i64 0, .int .i64 0, .bool false, .int .i64 0], [(0, 1), (1, 1), (2, 1), (3, 1), (4, 1), (5, 1), (6, 1)]) := by kernel_rfl
theorem kd152 : kindA Try.prog 152 = some none := by kernel_rfl
theorem co152 : Try.prog.cellsOf 152 = 1 := by kernel_rfl
theorem nz152 : Try.prog.cellsOf 152 ≠ 0 := by rw [co152]; decide
theorem is152 : (Try.prog.underlying 152).isSome = true := by kernel_rfl
theorem inf152 : (Try.prog.info? 152).isSome = true := by kernel_rfl
theorem kd153 : kindA Try.prog 153 = some (some 5) := by kernel_rfl
theorem co153 : Try.prog.cellsOf 153 = 5 := by kernel_rfl
theorem nz153 : Try.prog.cellsOf 153 ≠ 0 := by rw [co153]; decide
theorem is153 : (Try.prog.underlying 153).isSome = true := by kernel_rfl
theorem inf153 : (Try.prog.info? 153).isSome = true := by kernel_rfl
theorem fl153_0 : fldA Try.prog 153 0 = some (0, 3) := by kernel_rfl
theorem fl153_1 : fldA Try.prog 153 1 = some (1, 3) := by kernel_rfl
theorem fl153_2 : fldA Try.prog 153 2 = some (2, 3) := by kernel_rfl
theorem fl153_3 : fldA Try.prog 153 3 = some (3, 3) := by kernel_rfl
theorem fl153_4 : fldA Try.prog 153 4 = some (4, 3) := by kernel_rfl
theorem ze153 : zeroA Try.prog 153 = some [.int .i64 0, .int .i64 0, .int .i64 0, .int .i64 0, .int .i64 0] := by kernel_rfl
theorem sa153 : structA Try.prog 153 = some ([.int .i64 0, .int .i64 0, .int .i64 0, .int .i64 0, .int .i64 0], [(0, 1), (1, 1), (2, 1), (3, 1), (4, 1)]) := by kernel_rfl
theorem kd154 : kindA Try.prog 154 = some none := by kernel_rfl
theorem co154 : Try.prog.cellsOf 154 = 1 := by kernel_rfl
theorem nz154 : Try.prog.cellsOf 154 ≠ 0 := by rw [co154]; decide
theorem is154 : (Try.prog.underlying 154).isSome = true := by kernel_rfl
theorem inf154 : (Try.prog.info? 154).isSome = true := by kernel_rfl
theorem kd155 : kindA Try.prog 155 = some (some 2) := by kernel_rfl
theorem co155 : Try.prog.cellsOf 155 = 2 := by kernel_rfl
theorem nz155 : Try.prog.cellsOf 155 ≠ 0 := by rw [co155]; decide
theorem is155 : (Try.prog.underlying 155).isSome = true := by kernel_rfl
theorem inf155 : (Try.prog.info? 155).isSome = true := by kernel_rfl
theorem fl155_0 : fldA Try.prog 155 0 = some (0, 3) := by kernel_rfl
theorem fl155_1 : fldA Try.prog 155 1 = some (1, 3) := by kernel_rfl
theorem ze155 : zeroA Try.prog 155 = some [.int .i64 0, .int .i64 0] := by kernel_rfl
theorem sa155 : structA Try.prog 155 = some ([.int .i64 0, .int .i64 0], [(0, 1), (1, 1)]) := by kernel_rfl
theorem kd156 : kindA Try.prog 156 = some (some 3) := by kernel_rfl
theorem co156 : Try.prog.cellsOf 156 = 3 := by kernel_rfl
theorem nz156 : Try.prog.cellsOf 156 ≠ 0 := by rw [co156]; decide
theorem is156 : (Try.prog.underlying 156).isSome = true := by kernel_rfl
theorem inf156 : (Try.prog.info? 156).isSome = true := by kernel_rfl
theorem fl156_0 : fldA Try.prog 156 0 = some (0, 155) := by kernel_rfl
theorem fl156_1 : fldA Try.prog 156 1 = some (2, 3) := by kernel_rfl
theorem ze156 : zeroA Try.prog 156 = some [.int .i64 0, .int .i64 0, .int .i64 0] := by kernel_rfl
theorem sa156 : structA Try.prog 156 = some ([.int .i64 0, .int .i64 0, .int .i64 0], [(0, 2), (2, 1)]) := by kernel_rfl
theorem kd157 : kindA Try.prog 157 = some (some 3) := by kernel_rfl
theorem co157 : Try.prog.cellsOf 157 = 3 := by kernel_rfl
theorem nz157 : Try.prog.cellsOf 157 ≠ 0 := by rw [co157]; decide
theorem is157 : (Try.prog.underlying 157).isSome = true := by kernel_rfl
theorem inf157 : (Try.prog.info? 157).isSome = true := by kernel_rfl
theorem fl157_0 : fldA Try.prog 157 0 = some (0, 155) := by kernel_rfl
theorem fl157_1 : fldA Try.prog 157 1 = some (2, 3) := by kernel_rfl
theorem ze157 : zeroA Try.prog 157 = some [.int .i64 0, .int .i64 0, .int .i64 0] := by kernel_rfl
theorem sa157 : structA Try.prog 157 = some ([.int .i64 0, .int .i64 0, .int .i64 0], [(0, 2), (2, 1)]) := by kernel_rfl
theorem kd158 : kindA Try.prog 158 = some none := by kernel_rfl
theorem co158 : Try.prog.cellsOf 158 = 1 := by kernel_rfl
theorem nz158 : Try.prog.cellsOf 158 ≠ 0 := by rw [co158]; decide
theorem is158 : (Try.prog.underlying 158).isSome = true := by kernel_rfl
theorem inf158 : (Try.prog.info? 158).isSome = true := by kernel_rfl
theorem kd159 : kindA Try.prog 159 = some none := by kernel_rfl
theorem co159 : Try.prog.cellsOf 159 = 1 := by kernel_rfl
theorem nz159 : Try.prog.cellsOf 159 ≠ 0 := by rw [co159]; decide
theorem is159 : (Try.prog.underlying 159).isSome = true := by kernel_rfl
theorem inf159 : (Try.prog.info? 159).isSome = true := by kernel_rfl
theorem kd160 : kindA Try.prog 160 = some none := by kernel_rfl
theorem co160 : Try.prog.cellsOf 160 = 1 := by kernel_rfl
theorem nz160 : Try.prog.cellsOf 160 ≠ 0 := by rw [co160]; decide
theorem is160 : (Try.prog.underlying 160).isSome = true := by kernel_rfl
theorem inf160 : (Try.prog.info? 160).isSome = true := by kernel_rfl
theorem kd161 : kindA Try.prog 161 = some none := by kernel_rfl
theorem co161 : Try.prog.cellsOf 161 = 1 := by kernel_rfl
theorem nz161 : Try.prog.cellsOf 161 ≠ 0 := by rw [co161]; decide
theorem is161 : (Try.prog.underlying 161).isSome = true := by kernel_rfl
theorem inf161 : (Try.prog.info? 161).isSome = true := by kernel_rfl
theorem kd162 : kindA Try.prog 162 = some none := by kernel_rfl
theorem co162 : Try.prog.cellsOf 162 = 1 := by kernel_rfl
theorem nz162 : Try.prog.cellsOf 162 ≠ 0 := by rw [co162]; decide
theorem is162 : (Try.prog.underlying 162).isSome = true := by kernel_rfl
theorem inf162 : (Try.prog.info? 162).isSome = true := by kernel_rfl
theorem kd164 : kindA Try.prog 164 = some none := by kernel_rfl
theorem co164 : Try.prog.cellsOf 164 = 1 := by kernel_rfl
theorem nz164 : Try.prog.cellsOf 164 ≠ 0 := by rw [co164]; decide
theorem is164 : (Try.prog.underlying 164).isSome = true := by kernel_rfl
theorem inf164 : (Try.prog.info? 164).isSome = true := by kernel_rfl
theorem kd165 : kindA Try.prog 165 = some none := by kernel_rfl
theorem co165 : Try.prog.cellsOf 165 = 1 := by kernel_rfl
theorem nz165 : Try.prog.cellsOf 165 ≠ 0 := by rw [co165]; decide
theorem is165 : (Try.prog.underlying 165).isSome = true := by kernel_rfl
theorem inf165 : (Try.prog.info? 165).isSome = true := by kernel_rfl
theorem kd166 : kindA Try.prog 166 = some none := by kernel_rfl
theorem co166 : Try.prog.cellsOf 166 = 1 := by kernel_rfl
theorem nz166 : Try.prog.cellsOf 166 ≠ 0 := by rw [co166]; decide
theorem is166 : (Try.prog.underlying 166).isSome = true := by kernel_rfl
theorem inf166 : (Try.prog.info? 166).isSome = true := by kernel_rfl
theorem kd167 : kindA Try.prog 167 = some none := by kernel_rfl
theorem co167 : Try.prog.cellsOf 167 = 1 := by kernel_rfl
theorem nz167 : Try.prog.cellsOf 167 ≠ 0 := by rw [co167]; decide
theorem is167 : (Try.prog.underlying 167).isSome = true := by kernel_rfl
theorem inf167 : (Try.prog.info? 167).isSome = true := by kernel_rfl
theorem kd168 : kindA Try.prog 168 = some none := by kernel_rfl
theorem co168 : Try.prog.cellsOf 168 = 1 := by kernel_rfl
theorem nz168 : Try.prog.cellsOf 168 ≠ 0 := by rw [co168]; decide
theorem is168 : (Try.prog.underlying 168).isSome = true := by kernel_rfl
theorem inf168 : (Try.prog.info? 168).isSome = true := by kernel_rfl
theorem kd170 : kindA Try.prog 170 = some none := by kernel_rfl
theorem co170 : Try.prog.cellsOf 170 = 1 := by kernel_rfl
theorem nz170 : Try.prog.cellsOf 170 ≠ 0 := by rw [co170]; decide
theorem is170 : (Try.prog.underlying 170).isSome = true := by kernel_rfl
theorem inf170 : (Try.prog.info? 170).isSome = true := by kernel_rfl
theorem kd171 : kindA Try.prog 171 = some none := by kernel_rfl
theorem co171 : Try.prog.cellsOf 171 = 1 := by kernel_rfl
theorem nz171 : Try.prog.cellsOf 171 ≠ 0 := by rw [co171]; decide
theorem is171 : (Try.prog.underlying 171).isSome = true := by kernel_rfl
theorem inf171 : (Try.prog.info? 171).isSome = true := by kernel_rfl
theorem ik171 : intKind Try.prog 171 = some .u64 := by kernel_rfl
theorem ze171 : zeroA Try.prog 171 = some [.int .u64 0] := by kernel_rfl
theorem kd173 : kindA Try.prog 173 = some none := by kernel_rfl
theorem co173 : Try.prog.cellsOf 173 = 1 := by kernel_rfl
theorem nz173 : Try.prog.cellsOf 173 ≠ 0 := by rw [co173]; decide
theorem is173 : (Try.prog.underlying 173).isSome = true := by kernel_rfl
theorem inf173 : (Try.prog.info? 173).isSome = true := by kernel_rfl
theorem kd174 : kindA Try.prog 174 = some none := by kernel_rfl
theorem co174 : Try.prog.cellsOf 174 = 1 := by kernel_rfl
theorem nz174 : Try.prog.cellsOf 174 ≠ 0 := by rw [co174]; decide
theorem is174 : (Try.prog.underlying 174).isSome = true := by kernel_rfl
theorem inf174 : (Try.prog.info? 174).isSome = true := by kernel_rfl
theorem kd175 : kindA Try.prog 175 = some none := by kernel_rfl
theorem co175 : Try.prog.cellsOf 175 = 1 := by kernel_rfl
theorem nz175 : Try.prog.cellsOf 175 ≠ 0 := by rw [co175]; decide
theorem is175 : (Try.prog.underlying 175).isSome = true := by kernel_rfl
theorem inf175 : (Try.prog.info? 175).isSome = true := by kernel_rfl
theorem ik175 : intKind Try.prog 175 = some .u64 := by kernel_rfl
theorem ze175 : zeroA Try.prog 175 = some [.int .u64 0] := by kernel_rfl
theorem kd178 : kindA Try.prog 178 = some none := by kernel_rfl
theorem co178 : Try.prog.cellsOf 178 = 1 := by kernel_rfl
theorem nz178 : Try.prog.cellsOf 178 ≠ 0 := by rw [co178]; decide
theorem is178 : (Try.prog.underlying 178).isSome = true := by kernel_rfl
theorem inf178 : (Try.prog.info? 178).isSome = true := by kernel_rfl
theorem kd179 : kindA Try.prog 179 = some none := by kernel_rfl
theorem co179 : Try.prog.cellsOf 179 = 1 := by kernel_rfl
theorem nz179 : Try.prog.cellsOf 179 ≠ 0 := by rw [co179]; decide
theorem is179 : (Try.prog.underlying 179).isSome = true := by kernel_rfl
theorem inf179 : (Try.prog.info? 179).isSome = true := by kernel_rfl
theorem ze179 : zeroA Try.prog 179 = some [.pointer none] := by kernel_rfl
theorem kd180 : kindA Try.prog 180 = some none := by kernel_rfl
theorem co180 : Try.prog.cellsOf 180 = 1 := by kernel_rfl
theorem nz180 : Try.prog.cellsOf 180 ≠ 0 := by rw [co180]; decide
theorem is180 : (Try.prog.underlying 180).isSome = true := by kernel_rfl
theorem inf180 : (Try.prog.info? 180).isSome = true := by kernel_rfl
theorem kd181 : kindA Try.prog 181 = some (some 4) := by kernel_rfl
theorem co181 : Try.prog.cellsOf 181 = 4 := by kernel_rfl
theorem nz181 : Try.prog.cellsOf 181 ≠ 0 := by rw [co181]; decide
theorem is181 : (Try.prog.underlying 181).isSome = true := by kernel_rfl
theorem inf181 : (Try.prog.info? 181).isSome = true := by kernel_rfl
theorem fl181_0 : fldA Try.prog 181 0 = some (0, 17) := by kernel_rfl
theorem fl181_1 : fldA Try.prog 181 1 = some (1, 17) := by kernel_rfl
theorem fl181_2 : fldA Try.prog 181 2 = some (2, 17) := by kernel_rfl
theorem fl181_3 : fldA Try.prog 181 3 = some (3, 9) := by kernel_rfl
theorem kd182 : kindA Try.prog 182 = some (some 4) := by kernel_rfl
theorem co182 : Try.prog.cellsOf 182 = 4 := by kernel_rfl
theorem nz182 : Try.prog.cellsOf 182 ≠ 0 := by rw [co182]; decide
theorem is182 : (Try.prog.underlying 182).isSome = true := by kernel_rfl
theorem inf182 : (Try.prog.info? 182).isSome = true := by kernel_rfl
theorem fl182_0 : fldA Try.prog 182 0 = some (0, 17) := by kernel_rfl
theorem fl182_1 : fldA Try.prog 182 1 = some (1, 17) := by kernel_rfl
theorem fl182_2 : fldA Try.prog 182 2 = some (2, 17) := by kernel_rfl
theorem fl182_3 : fldA Try.prog 182 3 = some (3, 9) := by kernel_rfl
theorem kd186 : kindA Try.prog 186 = some none := by kernel_rfl
theorem co186 : Try.prog.cellsOf 186 = 1 := by kernel_rfl
theorem nz186 : Try.prog.cellsOf 186 ≠ 0 := by rw [co186]; decide
theorem is186 : (Try.prog.underlying 186).isSome = true := by kernel_rfl
theorem inf186 : (Try.prog.info? 186).isSome = true := by kernel_rfl
theorem kd187 : kindA Try.prog 187 = some none := by kernel_rfl
theorem co187 : Try.prog.cellsOf 187 = 1 := by kernel_rfl
theorem nz187 : Try.prog.cellsOf 187 ≠ 0 := by rw [co187]; decide
theorem is187 : (Try.prog.underlying 187).isSome = true := by kernel_rfl
theorem inf187 : (Try.prog.info? 187).isSome = true := by kernel_rfl
theorem ik187 : intKind Try.prog 187 = some .u32 := by kernel_rfl
theorem ze187 : zeroA Try.prog 187 = some [.int .u32 0] := by kernel_rfl
theorem kd188 : kindA Try.prog 188 = some none := by kernel_rfl
theorem co188 : Try.prog.cellsOf 188 = 1 := by kernel_rfl
theorem nz188 : Try.prog.cellsOf 188 ≠ 0 := by rw [co188]; decide
theorem is188 : (Try.prog.underlying 188).isSome = true := by kernel_rfl
theorem inf188 : (Try.prog.info? 188).isSome = true := by kernel_rfl
theorem ik188 : intKind Try.prog 188 = some .u8 := by kernel_rfl
theorem ze188 : zeroA Try.prog 188 = some [.int .u8 0] := by kernel_rfl
theorem kd189 : kindA Try.prog 189 = some none := by kernel_rfl
theorem co189 : Try.prog.cellsOf 189 = 1 := by kernel_rfl
theorem nz189 : Try.prog.cellsOf 189 ≠ 0 := by rw [co189]; decide
theorem is189 : (Try.prog.underlying 189).isSome = true := by kernel_rfl
theorem inf189 : (Try.prog.info? 189).isSome = true := by kernel_rfl
theorem ik189 : intKind Try.prog 189 = some .u8 := by kernel_rfl
theorem ze189 : zeroA Try.prog 189 = some [.int .u8 0] := by kernel_rfl
theorem kd190 : kindA Try.prog 190 = some none := by kernel_rfl
theorem co190 : Try.prog.cellsOf 190 = 1 := by kernel_rfl
theorem nz190 : Try.prog.cellsOf 190 ≠ 0 := by rw [co190]; decide
theorem is190 : (Try.prog.underlying 190).isSome = true := by kernel_rfl
theorem inf190 : (Try.prog.info? 190).isSome = true := by kernel_rfl
theorem kd191 : kindA Try.prog 191 = some none := by kernel_rfl
theorem co191 : Try.prog.cellsOf 191 = 1 := by kernel_rfl
theorem nz191 : Try.prog.cellsOf 191 ≠ 0 := by rw [co191]; decide
theorem is191 : (Try.prog.underlying 191).isSome = true := by kernel_rfl
theorem inf191 : (Try.prog.info? 191).isSome = true := by kernel_rfl
theorem ze191 : zeroA Try.prog 191 = some [.pointer none] := by kernel_rfl
theorem kd192 : kindA Try.prog 192 = some none := by kernel_rfl
theorem co192 : Try.prog.cellsOf 192 = 1 := by kernel_rfl
theorem nz192 : Try.prog.cellsOf 192 ≠ 0 := by rw [co192]; decide
theorem is192 : (Try.prog.underlying 192).isSome = true := by kernel_rfl
theorem inf192 : (Try.prog.info? 192).isSome = true := by kernel_rfl
theorem ik192 : intKind Try.prog 192 = some .i32 := by kernel_rfl
theorem ze192 : zeroA Try.prog 192 = some [.int .i32 0] := by kernel_rfl
theorem kd193 : kindA Try.prog 193 = some none := by kernel_rfl
theorem co193 : Try.prog.cellsOf 193 = 1 := by kernel_rfl
theorem nz193 : Try.prog.cellsOf 193 ≠ 0 := by rw [co193]; decide
theorem is193 : (Try.prog.underlying 193).isSome = true := by kernel_rfl
theorem inf193 : (Try.prog.info? 193).isSome = true := by kernel_rfl
theorem ik193 : intKind Try.prog 193 = some .i32 := by kernel_rfl
theorem ze193 : zeroA Try.prog 193 = some [.int .i32 0] := by kernel_rfl
theorem kd194 : kindA Try.prog 194 = some (some 11) := by kernel_rfl
theorem co194 : Try.prog.cellsOf 194 = 11 := by kernel_rfl
theorem nz194 : Try.prog.cellsOf 194 ≠ 0 := by rw [co194]; decide
theorem is194 : (Try.prog.underlying 194).isSome = true := by kernel_rfl
theorem inf194 : (Try.prog.info? 194).isSome = true := by kernel_rfl
theorem fl194_0 : fldA Try.prog 194 0 = some (0, 12) := by kernel_rfl
theorem fl194_1 : fldA Try.prog 194 1 = some (1, 12) := by kernel_rfl
theorem fl194_2 : fldA Try.prog 194 2 = some (2, 187) := by kernel_rfl
theorem fl194_3 : fldA Try.prog 194 3 = some (3, 188) := by kernel_rfl
theorem fl194_4 : fldA Try.prog 194 4 = some (4, 5) := by kernel_rfl
theorem fl194_5 : fldA Try.prog 194 5 = some (5, 5) := by kernel_rfl
theorem fl194_6 : fldA Try.prog 194 6 = some (6, 189) := by kernel_rfl
theorem fl194_7 : fldA Try.prog 194 7 = some (7, 190) := by kernel_rfl
theorem fl194_8 : fldA Try.prog 194 8 = some (8, 191) := by kernel_rfl
theorem fl194_9 : fldA Try.prog 194 9 = some (9, 192) := by kernel_rfl
theorem fl194_10 : fldA Try.prog 194 10 = some (10, 193) := by kernel_rfl
theorem kd195 : kindA Try.prog 195 = some (some 11) := by kernel_rfl
theorem co195 : Try.prog.cellsOf 195 = 11 := by kernel_rfl
theorem nz195 : Try.prog.cellsOf 195 ≠ 0 := by rw [co195]; decide
theorem is195 : (Try.prog.underlying 195).isSome = true := by kernel_rfl
theorem inf195 : (Try.prog.info? 195).isSome = true := by kernel_rfl
theorem fl195_0 : fldA Try.prog 195 0 = some (0, 12) := by kernel_rfl
theorem fl195_1 : fldA Try.prog 195 1 = some (1, 12) := by kernel_rfl
theorem fl195_2 : fldA Try.prog 195 2 = some (2, 187) := by kernel_rfl
theorem fl195_3 : fldA Try.prog 195 3 = some (3, 188) := by kernel_rfl
theorem fl195_4 : fldA Try.prog 195 4 = some (4, 5) := by kernel_rfl
theorem fl195_5 : fldA Try.prog 195 5 = some (5, 5) := by kernel_rfl
theorem fl195_6 : fldA Try.prog 195 6 = some (6, 189) := by kernel_rfl
theorem fl195_7 : fldA Try.prog 195 7 = some (7, 190) := by kernel_rfl
theorem fl195_8 : fldA Try.prog 195 8 = some (8, 191) := by kernel_rfl
theorem fl195_9 : fldA Try.prog 195 9 = some (9, 192) := by kernel_rfl
theorem fl195_10 : fldA Try.prog 195 10 = some (10, 193) := by kernel_rfl
theorem kd196 : kindA Try.prog 196 = some (some 1) := by kernel_rfl
theorem co196 : Try.prog.cellsOf 196 = 1 := by kernel_rfl
theorem nz196 : Try.prog.cellsOf 196 ≠ 0 := by rw [co196]; decide
theorem is196 : (Try.prog.underlying 196).isSome = true := by kernel_rfl
theorem inf196 : (Try.prog.info? 196).isSome = true := by kernel_rfl
theorem fl196_0 : fldA Try.prog 196 0 = some (0, 9) := by kernel_rfl
theorem kd197 : kindA Try.prog 197 = some (some 1) := by kernel_rfl
theorem co197 : Try.prog.cellsOf 197 = 1 := by kernel_rfl
theorem nz197 : Try.prog.cellsOf 197 ≠ 0 := by rw [co197]; decide
theorem is197 : (Try.prog.underlying 197).isSome = true := by kernel_rfl
theorem inf197 : (Try.prog.info? 197).isSome = true := by kernel_rfl
theorem fl197_0 : fldA Try.prog 197 0 = some (0, 9) := by kernel_rfl
theorem sf7 : Try.prog.fieldsOf 7 = ([{ name := "x", type := 2, offset := 0, embedded := false, tag := "", pkgPath := "runtime", byteOffset := 0 }, { name := "y", type := 3, offset := 1, embedded := false, tag := "", pkgPath := "runtime", byteOffset := 8 }, { name := "signed", type := 4, offset := 2, embedded := false, tag := "", pkgPath := "runtime", byteOffset := 16 }, { name := "code", type := 6, offset := 3, embedded := false, tag := "", pkgPath := "runtime", byteOffset := 17 }] : List Field).toArray := by unfold Program.fieldsOf; rw [Try.underlying7]
theorem su7 : Try.prog.underlying 7 = some (.struct (Try.prog.fieldsOf 7)) := by rw [sf7]; exact Try.underlying7
theorem sh7 : Try.prog.stoodInHeld 7 = false := by kernel_rfl
theorem sg7 : Try.prog.eqGuardType Try.prog.depth 7 = false := by kernel_rfl
theorem sf8 : Try.prog.fieldsOf 8 = ([{ name := "x", type := 2, offset := 0, embedded := false, tag := "", pkgPath := "runtime", byteOffset := 0 }, { name := "y", type := 3, offset := 1, embedded := false, tag := "", pkgPath := "runtime", byteOffset := 8 }, { name := "signed", type := 4, offset := 2, embedded := false, tag := "", pkgPath := "runtime", byteOffset := 16 }, { name := "code", type := 6, offset := 3, embedded := false, tag := "", pkgPath := "runtime", byteOffset := 17 }] : List Field).toArray := by unfold Program.fieldsOf; rw [Try.underlying8]
theorem su8 : Try.prog.underlying 8 = some (.struct (Try.prog.fieldsOf 8)) := by rw [sf8]; exact Try.underlying8
theorem sh8 : Try.prog.stoodInHeld 8 = false := by kernel_rfl
theorem sg8 : Try.prog.eqGuardType Try.prog.depth 8 = false := by kernel_rfl
theorem sf86 : Try.prog.fieldsOf 86 = ([{ name := "id", type := 3, offset := 0, embedded := false, tag := "", pkgPath := "loop.example/g00400/spec", byteOffset := 0 }, { name := "from", type := 3, offset := 1, embedded := false, tag := "", pkgPath := "loop.example/g00400/spec", byteOffset := 8 }, { name := "to", type := 3, offset := 2, embedded := false, tag := "", pkgPath := "loop.example/g00400/spec", byteOffset := 16 }, { name := "rest", type := 3, offset := 3, embedded := false, tag := "", pkgPath := "loop.example/g00400/spec", byteOffset := 24 }, { name := "cost", type := 3, offset := 4, embedded := false, tag := "", pkgPath := "loop.example/g00400/spec", byteOffset := 32 }] : List Field).toArray := by unfold Program.fieldsOf; rw [Try.underlying86]
theorem su86 : Try.prog.underlying 86 = some (.struct (Try.prog.fieldsOf 86)) := by rw [sf86]; exact Try.underlying86
theorem sh86 : Try.prog.stoodInHeld 86 = false := by kernel_rfl
theorem sg86 : Try.prog.eqGuardType Try.prog.depth 86 = false := by kernel_rfl
theorem sf87 : Try.prog.fieldsOf 87 = ([{ name := "id", type := 3, offset := 0, embedded := false, tag := "", pkgPath := "loop.example/g00400/spec", byteOffset := 0 }, { name := "from", type := 3, offset := 1, embedded := false, tag := "", pkgPath := "loop.example/g00400/spec", byteOffset := 8 }, { name := "to", type := 3, offset := 2, embedded := false, tag := "", pkgPath := "loop.example/g00400/spec", byteOffset := 16 }, { name := "rest", type := 3, offset := 3, embedded := false, tag := "", pkgPath := "loop.example/g00400/spec", byteOffset := 24 }, { name := "cost", type := 3, offset := 4, embedded := false, tag := "", pkgPath := "loop.example/g00400/spec", byteOffset := 32 }] : List Field).toArray := by unfold Program.fieldsOf; rw [Try.underlying87]
theorem su87 : Try.prog.underlying 87 = some (.struct (Try.prog.fieldsOf 87)) := by rw [sf87]; exact Try.underlying87
theorem sh87 : Try.prog.stoodInHeld 87 = false := by kernel_rfl
theorem sg87 : Try.prog.eqGuardType Try.prog.depth 87 = false := by kernel_rfl
theorem sf91 : Try.prog.fieldsOf 91 = ([{ name := "id", type := 3, offset := 0, embedded := false, tag := "", pkgPath := "loop.example/g00400/impl", byteOffset := 0 }, { name := "from", type := 3, offset := 1, embedded := false, tag := "", pkgPath := "loop.example/g00400/impl", byteOffset := 8 }, { name := "to", type := 3, offset := 2, embedded := false, tag := "", pkgPath := "loop.example/g00400/impl", byteOffset := 16 }, { name := "room", type := 3, offset := 3, embedded := false, tag := "", pkgPath := "loop.example/g00400/impl", byteOffset := 24 }, { name := "cost", type := 3, offset := 4, embedded := false, tag := "", pkgPath := "loop.example/g00400/impl", byteOffset := 32 }] : List Field).toArray := by unfold Program.fieldsOf; rw [Try.underlying91]
theorem su91 : Try.prog.underlying 91 = some (.struct (Try.prog.fieldsOf 91)) := by rw [sf91]; exact Try.underlying91
theorem sh91 : Try.prog.stoodInHeld 91 = false := by kernel_rfl
theorem sg91 : Try.prog.eqGuardType Try.prog.depth 91 = false := by kernel_rfl
theorem sf92 : Try.prog.fieldsOf 92 = ([{ name := "id", type := 3, offset := 0, embedded := false, tag := "", pkgPath := "loop.example/g00400/impl", byteOffset := 0 }, { name := "from", type := 3, offset := 1, embedded := false, tag := "", pkgPath := "loop.example/g00400/impl", byteOffset := 8 }, { name := "to", type := 3, offset := 2, embedded := false, tag := "", pkgPath := "loop.example/g00400/impl", byteOffset := 16 }, { name := "room", type := 3, offset := 3, embedded := false, tag := "", pkgPath := "loop.example/g00400/impl", byteOffset := 24 }, { name := "cost", type := 3, offset := 4, embedded := false, tag := "", pkgPath := "loop.example/g00400/impl", byteOffset := 32 }] : List Field).toArray := by unfold Program.fieldsOf; rw [Try.underlying92]
theorem su92 : Try.prog.underlying 92 = some (.struct (Try.prog.fieldsOf 92)) := by rw [sf92]; exact Try.underlying92
theorem sh92 : Try.prog.stoodInHeld 92 = false := by kernel_rfl
theorem sg92 : Try.prog.eqGuardType Try.prog.depth 92 = false := by kernel_rfl
theorem sf104 : Try.prog.fieldsOf 104 = ([{ name := "Kind", type := 3, offset := 0, embedded := false, tag := "", pkgPath := "", byteOffset := 0 }, { name := "Ch", type := 3, offset := 1, embedded := false, tag := "", pkgPath := "", byteOffset := 8 }] : List Field).toArray := by unfold Program.fieldsOf; rw [Try.underlying104]
theorem su104 : Try.prog.underlying 104 = some (.struct (Try.prog.fieldsOf 104)) := by rw [sf104]; exact Try.underlying104
theorem sh104 : Try.prog.stoodInHeld 104 = false := by kernel_rfl
theorem sg104 : Try.prog.eqGuardType Try.prog.depth 104 = false := by kernel_rfl
theorem sf105 : Try.prog.fieldsOf 105 = ([{ name := "Kind", type := 3, offset := 0, embedded := false, tag := "", pkgPath := "", byteOffset := 0 }, { name := "Ch", type := 3, offset := 1, embedded := false, tag := "", pkgPath := "", byteOffset := 8 }] : List Field).toArray := by unfold Program.fieldsOf; rw [Try.underlying105]
theorem su105 : Try.prog.underlying 105 = some (.struct (Try.prog.fieldsOf 105)) := by rw [sf105]; exact Try.underlying105
theorem sh105 : Try.prog.stoodInHeld 105 = false := by kernel_rfl
theorem sg105 : Try.prog.eqGuardType Try.prog.depth 105 = false := by kernel_rfl
theorem sf106 : Try.prog.fieldsOf 106 = ([{ name := "Id", type := 3, offset := 0, embedded := false, tag := "", pkgPath := "", byteOffset := 0 }, { name := "Size", type := 3, offset := 1, embedded := false, tag := "", pkgPath := "", byteOffset := 8 }, { name := "Local", type := 3, offset := 2, embedded := false, tag := "", pkgPath := "", byteOffset := 16 }, { name := "Remote", type := 3, offset := 3, embedded := false, tag := "", pkgPath := "", byteOffset := 24 }, { name := "Base", type := 3, offset := 4, embedded := false, tag := "", pkgPath := "", byteOffset := 32 }, { name := "Ppm", type := 3, offset := 5, embedded := false, tag := "", pkgPath := "", byteOffset := 40 }, { name := "Score", type := 3, offset := 6, embedded := false, tag := "", pkgPath := "", byteOffset := 48 }] : List Field).toArray := by unfold Program.fieldsOf; rw [Try.underlying106]
theorem su106 : Try.prog.underlying 106 = some (.struct (Try.prog.fieldsOf 106)) := by rw [sf106]; exact Try.underlying106
theorem sh106 : Try.prog.stoodInHeld 106 = false := by kernel_rfl
theorem sg106 : Try.prog.eqGuardType Try.prog.depth 106 = false := by kernel_rfl
theorem sf107 : Try.prog.fieldsOf 107 = ([{ name := "Id", type := 3, offset := 0, embedded := false, tag := "", pkgPath := "", byteOffset := 0 }, { name := "Size", type := 3, offset := 1, embedded := false, tag := "", pkgPath := "", byteOffset := 8 }, { name := "Local", type := 3, offset := 2, embedded := false, tag := "", pkgPath := "", byteOffset := 16 }, { name := "Remote", type := 3, offset := 3, embedded := false, tag := "", pkgPath := "", byteOffset := 24 }, { name := "Base", type := 3, offset := 4, embedded := false, tag := "", pkgPath := "", byteOffset := 32 }, { name := "Ppm", type := 3, offset := 5, embedded := false, tag := "", pkgPath := "", byteOffset := 40 }, { name := "Score", type := 3, offset := 6, embedded := false, tag := "", pkgPath := "", byteOffset := 48 }] : List Field).toArray := by unfold Program.fieldsOf; rw [Try.underlying107]
theorem su107 : Try.prog.underlying 107 = some (.struct (Try.prog.fieldsOf 107)) := by rw [sf107]; exact Try.underlying107
theorem sh107 : Try.prog.stoodInHeld 107 = false := by kernel_rfl
theorem sg107 : Try.prog.eqGuardType Try.prog.depth 107 = false := by kernel_rfl
theorem sf122 : Try.prog.fieldsOf 122 = ([{ name := "From", type := 3, offset := 0, embedded := false, tag := "", pkgPath := "", byteOffset := 0 }, { name := "To", type := 3, offset := 1, embedded := false, tag := "", pkgPath := "", byteOffset := 8 }, { name := "Cap", type := 3, offset := 2, embedded := false, tag := "", pkgPath := "", byteOffset := 16 }, { name := "Cost", type := 3, offset := 3, embedded := false, tag := "", pkgPath := "", byteOffset := 24 }] : List Field).toArray := by unfold Program.fieldsOf; rw [Try.underlying122]
theorem su122 : Try.prog.underlying 122 = some (.struct (Try.prog.fieldsOf 122)) := by rw [sf122]; exact Try.underlying122
theorem sh122 : Try.prog.stoodInHeld 122 = false := by kernel_rfl
theorem sg122 : Try.prog.eqGuardType Try.prog.depth 122 = false := by kernel_rfl
theorem sf123 : Try.prog.fieldsOf 123 = ([{ name := "From", type := 3, offset := 0, embedded := false, tag := "", pkgPath := "", byteOffset := 0 }, { name := "To", type := 3, offset := 1, embedded := false, tag := "", pkgPath := "", byteOffset := 8 }, { name := "Cap", type := 3, offset := 2, embedded := false, tag := "", pkgPath := "", byteOffset := 16 }, { name := "Cost", type := 3, offset := 3, embedded := false, tag := "", pkgPath := "", byteOffset := 24 }] : List Field).toArray := by unfold Program.fieldsOf; rw [Try.underlying123]
theorem su123 : Try.prog.underlying 123 = some (.struct (Try.prog.fieldsOf 123)) := by rw [sf123]; exact Try.underlying123
theorem sh123 : Try.prog.stoodInHeld 123 = false := by kernel_rfl
theorem sg123 : Try.prog.eqGuardType Try.prog.depth 123 = false := by kernel_rfl
theorem sf124 : Try.prog.fieldsOf 124 = ([{ name := "From", type := 3, offset := 0, embedded := false, tag := "", pkgPath := "", byteOffset := 0 }, { name := "To", type := 3, offset := 1, embedded := false, tag := "", pkgPath := "", byteOffset := 8 }, { name := "Ppm", type := 3, offset := 2, embedded := false, tag := "", pkgPath := "", byteOffset := 16 }] : List Field).toArray := by unfold Program.fieldsOf; rw [Try.underlying124]
theorem su124 : Try.prog.underlying 124 = some (.struct (Try.prog.fieldsOf 124)) := by rw [sf124]; exact Try.underlying124
theorem sh124 : Try.prog.stoodInHeld 124 = false := by kernel_rfl
theorem sg124 : Try.prog.eqGuardType Try.prog.depth 124 = false := by kernel_rfl
theorem sf125 : Try.prog.fieldsOf 125 = ([{ name := "From", type := 3, offset := 0, embedded := false, tag := "", pkgPath := "", byteOffset := 0 }, { name := "To", type := 3, offset := 1, embedded := false, tag := "", pkgPath := "", byteOffset := 8 }, { name := "Ppm", type := 3, offset := 2, embedded := false, tag := "", pkgPath := "", byteOffset := 16 }] : List Field).toArray := by unfold Program.fieldsOf; rw [Try.underlying125]
theorem su125 : Try.prog.underlying 125 = some (.struct (Try.prog.fieldsOf 125)) := by rw [sf125]; exact Try.underlying125
theorem sh125 : Try.prog.stoodInHeld 125 = false := by kernel_rfl
theorem sg125 : Try.prog.eqGuardType Try.prog.depth 125 = false := by kernel_rfl
theorem sf127 : Try.prog.fieldsOf 127 = ([{ name := "From", type := 3, offset := 0, embedded := false, tag := "", pkgPath := "", byteOffset := 0 }, { name := "To", type := 3, offset := 1, embedded := false, tag := "", pkgPath := "", byteOffset := 8 }, { name := "Ppm", type := 3, offset := 2, embedded := false, tag := "", pkgPath := "", byteOffset := 16 }] : List Field).toArray := by unfold Program.fieldsOf; rw [Try.underlying127]
theorem su127 : Try.prog.underlying 127 = some (.struct (Try.prog.fieldsOf 127)) := by rw [sf127]; exact Try.underlying127
theorem sh127 : Try.prog.stoodInHeld 127 = false := by kernel_rfl
theorem sg127 : Try.prog.eqGuardType Try.prog.depth 127 = false := by kernel_rfl
theorem sf133 : Try.prog.fieldsOf 133 = ([{ name := "From", type := 3, offset := 0, embedded := false, tag := "", pkgPath := "", byteOffset := 0 }, { name := "To", type := 3, offset := 1, embedded := false, tag := "", pkgPath := "", byteOffset := 8 }, { name := "Amt", type := 3, offset := 2, embedded := false, tag := "", pkgPath := "", byteOffset := 16 }, { name := "Ppm", type := 3, offset := 3, embedded := false, tag := "", pkgPath := "", byteOffset := 24 }] : List Field).toArray := by unfold Program.fieldsOf; rw [Try.underlying133]
theorem su133 : Try.prog.underlying 133 = some (.struct (Try.prog.fieldsOf 133)) := by rw [sf133]; exact Try.underlying133
theorem sh133 : Try.prog.stoodInHeld 133 = false := by kernel_rfl
theorem sg133 : Try.prog.eqGuardType Try.prog.depth 133 = false := by kernel_rfl
theorem sf134 : Try.prog.fieldsOf 134 = ([{ name := "From", type := 3, offset := 0, embedded := false, tag := "", pkgPath := "", byteOffset := 0 }, { name := "To", type := 3, offset := 1, embedded := false, tag := "", pkgPath := "", byteOffset := 8 }, { name := "Amt", type := 3, offset := 2, embedded := false, tag := "", pkgPath := "", byteOffset := 16 }, { name := "Ppm", type := 3, offset := 3, embedded := false, tag := "", pkgPath := "", byteOffset := 24 }] : List Field).toArray := by unfold Program.fieldsOf; rw [Try.underlying134]
theorem su134 : Try.prog.underlying 134 = some (.struct (Try.prog.fieldsOf 134)) := by rw [sf134]; exact Try.underlying134
theorem sh134 : Try.prog.stoodInHeld 134 = false := by kernel_rfl
theorem sg134 : Try.prog.eqGuardType Try.prog.depth 134 = false := by kernel_rfl
theorem sf137 : Try.prog.fieldsOf 137 = ([{ name := "From", type := 3, offset := 0, embedded := false, tag := "", pkgPath := "", byteOffset := 0 }, { name := "To", type := 3, offset := 1, embedded := false, tag := "", pkgPath := "", byteOffset := 8 }, { name := "Cap", type := 3, offset := 2, embedded := false, tag := "", pkgPath := "", byteOffset := 16 }, { name := "Cost", type := 3, offset := 3, embedded := false, tag := "", pkgPath := "", byteOffset := 24 }] : List Field).toArray := by unfold Program.fieldsOf; rw [Try.underlying137]
theorem su137 : Try.prog.underlying 137 = some (.struct (Try.prog.fieldsOf 137)) := by rw [sf137]; exact Try.underlying137
theorem sh137 : Try.prog.stoodInHeld 137 = false := by kernel_rfl
theorem sg137 : Try.prog.eqGuardType Try.prog.depth 137 = false := by kernel_rfl
theorem sf144 : Try.prog.fieldsOf 144 = ([{ name := "Key", type := 3, offset := 0, embedded := false, tag := "", pkgPath := "", byteOffset := 0 }, { name := "In", type := 3, offset := 1, embedded := false, tag := "", pkgPath := "", byteOffset := 8 }, { name := "Out", type := 3, offset := 2, embedded := false, tag := "", pkgPath := "", byteOffset := 16 }, { name := "AmtIn", type := 3, offset := 3, embedded := false, tag := "", pkgPath := "", byteOffset := 24 }, { name := "AmtOut", type := 3, offset := 4, embedded := false, tag := "", pkgPath := "", byteOffset := 32 }, { name := "Kept", type := 4, offset := 5, embedded := false, tag := "", pkgPath := "", byteOffset := 40 }, { name := "Age", type := 3, offset := 6, embedded := false, tag := "", pkgPath := "", byteOffset := 48 }] : List Field).toArray := by unfold Program.fieldsOf; rw [Try.underlying144]
theorem su144 : Try.prog.underlying 144 = some (.struct (Try.prog.fieldsOf 144)) := by rw [sf144]; exact Try.underlying144
theorem sh144 : Try.prog.stoodInHeld 144 = false := by kernel_rfl
theorem sg144 : Try.prog.eqGuardType Try.prog.depth 144 = false := by kernel_rfl
theorem sf145 : Try.prog.fieldsOf 145 = ([{ name := "Key", type := 3, offset := 0, embedded := false, tag := "", pkgPath := "", byteOffset := 0 }, { name := "In", type := 3, offset := 1, embedded := false, tag := "", pkgPath := "", byteOffset := 8 }, { name := "Out", type := 3, offset := 2, embedded := false, tag := "", pkgPath := "", byteOffset := 16 }, { name := "AmtIn", type := 3, offset := 3, embedded := false, tag := "", pkgPath := "", byteOffset := 24 }, { name := "AmtOut", type := 3, offset := 4, embedded := false, tag := "", pkgPath := "", byteOffset := 32 }, { name := "Kept", type := 4, offset := 5, embedded := false, tag := "", pkgPath := "", byteOffset := 40 }, { name := "Age", type := 3, offset := 6, embedded := false, tag := "", pkgPath := "", byteOffset := 48 }] : List Field).toArray := by unfold Program.fieldsOf; rw [Try.underlying145]
theorem su145 : Try.prog.underlying 145 = some (.struct (Try.prog.fieldsOf 145)) := by rw [sf145]; exact Try.underlying145
theorem sh145 : Try.prog.stoodInHeld 145 = false := by kernel_rfl
theorem sg145 : Try.prog.eqGuardType Try.prog.depth 145 = false := by kernel_rfl
theorem sf146 : Try.prog.fieldsOf 146 = ([{ name := "Key", type := 3, offset := 0, embedded := false, tag := "", pkgPath := "", byteOffset := 0 }, { name := "From", type := 3, offset := 1, embedded := false, tag := "", pkgPath := "", byteOffset := 8 }, { name := "To", type := 3, offset := 2, embedded := false, tag := "", pkgPath := "", byteOffset := 16 }, { name := "Amt", type := 3, offset := 3, embedded := false, tag := "", pkgPath := "", byteOffset := 24 }, { name := "Fee", type := 3, offset := 4, embedded := false, tag := "", pkgPath := "", byteOffset := 32 }] : List Field).toArray := by unfold Program.fieldsOf; rw [Try.underlying146]
theorem su146 : Try.prog.underlying 146 = some (.struct (Try.prog.fieldsOf 146)) := by rw [sf146]; exact Try.underlying146
theorem sh146 : Try.prog.stoodInHeld 146 = false := by kernel_rfl
theorem sg146 : Try.prog.eqGuardType Try.prog.depth 146 = false := by kernel_rfl
theorem sf147 : Try.prog.fieldsOf 147 = ([{ name := "Key", type := 3, offset := 0, embedded := false, tag := "", pkgPath := "", byteOffset := 0 }, { name := "From", type := 3, offset := 1, embedded := false, tag := "", pkgPath := "", byteOffset := 8 }, { name := "To", type := 3, offset := 2, embedded := false, tag := "", pkgPath := "", byteOffset := 16 }, { name := "Amt", type := 3, offset := 3, embedded := false, tag := "", pkgPath := "", byteOffset := 24 }, { name := "Fee", type := 3, offset := 4, embedded := false, tag := "", pkgPath := "", byteOffset := 32 }] : List Field).toArray := by unfold Program.fieldsOf; rw [Try.underlying147]
theorem su147 : Try.prog.underlying 147 = some (.struct (Try.prog.fieldsOf 147)) := by rw [sf147]; exact Try.underlying147
theorem sh147 : Try.prog.stoodInHeld 147 = false := by kernel_rfl
theorem sg147 : Try.prog.eqGuardType Try.prog.depth 147 = false := by kernel_rfl
theorem sf149 : Try.prog.fieldsOf 149 = ([{ name := "Id", type := 3, offset := 0, embedded := false, tag := "", pkgPath := "", byteOffset := 0 }, { name := "Size", type := 3, offset := 1, embedded := false, tag := "", pkgPath := "", byteOffset := 8 }, { name := "Local", type := 3, offset := 2, embedded := false, tag := "", pkgPath := "", byteOffset := 16 }, { name := "Remote", type := 3, offset := 3, embedded := false, tag := "", pkgPath := "", byteOffset := 24 }, { name := "Base", type := 3, offset := 4, embedded := false, tag := "", pkgPath := "", byteOffset := 32 }, { name := "Ppm", type := 3, offset := 5, embedded := false, tag := "", pkgPath := "", byteOffset := 40 }, { name := "Score", type := 3, offset := 6, embedded := false, tag := "", pkgPath := "", byteOffset := 48 }] : List Field).toArray := by unfold Program.fieldsOf; rw [Try.underlying149]
theorem su149 : Try.prog.underlying 149 = some (.struct (Try.prog.fieldsOf 149)) := by rw [sf149]; exact Try.underlying149
theorem sh149 : Try.prog.stoodInHeld 149 = false := by kernel_rfl
theorem sg149 : Try.prog.eqGuardType Try.prog.depth 149 = false := by kernel_rfl
theorem sf151 : Try.prog.fieldsOf 151 = ([{ name := "Key", type := 3, offset := 0, embedded := false, tag := "", pkgPath := "", byteOffset := 0 }, { name := "In", type := 3, offset := 1, embedded := false, tag := "", pkgPath := "", byteOffset := 8 }, { name := "Out", type := 3, offset := 2, embedded := false, tag := "", pkgPath := "", byteOffset := 16 }, { name := "AmtIn", type := 3, offset := 3, embedded := false, tag := "", pkgPath := "", byteOffset := 24 }, { name := "AmtOut", type := 3, offset := 4, embedded := false, tag := "", pkgPath := "", byteOffset := 32 }, { name := "Kept", type := 4, offset := 5, embedded := false, tag := "", pkgPath := "", byteOffset := 40 }, { name := "Age", type := 3, offset := 6, embedded := false, tag := "", pkgPath := "", byteOffset := 48 }] : List Field).toArray := by unfold Program.fieldsOf; rw [Try.underlying151]
theorem su151 : Try.prog.underlying 151 = some (.struct (Try.prog.fieldsOf 151)) := by rw [sf151]; exact Try.underlying151
theorem sh151 : Try.prog.stoodInHeld 151 = false := by kernel_rfl
theorem sg151 : Try.prog.eqGuardType Try.prog.depth 151 = false := by kernel_rfl
theorem sf153 : Try.prog.fieldsOf 153 = ([{ name := "Key", type := 3, offset := 0, embedded := false, tag := "", pkgPath := "", byteOffset := 0 }, { name := "From", type := 3, offset := 1, embedded := false, tag := "", pkgPath := "", byteOffset := 8 }, { name := "To", type := 3, offset := 2, embedded := false, tag := "", pkgPath := "", byteOffset := 16 }, { name := "Amt", type := 3, offset := 3, embedded := false, tag := "", pkgPath := "", byteOffset := 24 }, { name := "Fee", type := 3, offset := 4, embedded := false, tag := "", pkgPath := "", byteOffset := 32 }] : List Field).toArray := by unfold Program.fieldsOf; rw [Try.underlying153]
theorem su153 : Try.prog.underlying 153 = some (.struct (Try.prog.fieldsOf 153)) := by rw [sf153]; exact Try.underlying153
theorem sh153 : Try.prog.stoodInHeld 153 = false := by kernel_rfl
theorem sg153 : Try.prog.eqGuardType Try.prog.depth 153 = false := by kernel_rfl
theorem sf155 : Try.prog.fieldsOf 155 = ([{ name := "Kind", type := 3, offset := 0, embedded := false, tag := "", pkgPath := "", byteOffset := 0 }, { name := "Ch", type := 3, offset := 1, embedded := false, tag := "", pkgPath := "", byteOffset := 8 }] : List Field).toArray := by unfold Program.fieldsOf; rw [Try.underlying155]
theorem su155 : Try.prog.underlying 155 = some (.struct (Try.prog.fieldsOf 155)) := by rw [sf155]; exact Try.underlying155
theorem sh155 : Try.prog.stoodInHeld 155 = false := by kernel_rfl
theorem sg155 : Try.prog.eqGuardType Try.prog.depth 155 = false := by kernel_rfl
end Go.Proofs.Ytbjnbhlpibadnaa.ty
