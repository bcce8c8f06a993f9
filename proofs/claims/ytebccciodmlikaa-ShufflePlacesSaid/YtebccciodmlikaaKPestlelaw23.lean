/- Package pestlelaw23 as code of the abstract machine. -/
import Derived.Test.YtebccciodmlikaaKF
namespace PK
open Go PAbs

noncomputable def c_pestlelaw23_ShufflePlaces : AFn := AFn.mk 89 [.tmp 2]
  (.seq (.region
      [⟨some 2, .mv (.k (.c (.bool false))), none⟩])
  (.seq (.seq (.region
        [⟨some 8, .call F_pestlelaw23_awake [], none⟩,
          ⟨some 9, .un .not (.t 8), none⟩])
    (.cond (.t 9)
      (.seq (.region
          [⟨some 2, .mv (.k (.c (.bool false))), none⟩])
      (.ret))
      (.skip)))
  (.seq (.region
      [⟨some 11, .mv (.t 0), none⟩,
        ⟨some 12, .call F_shuffle_Places [.t 11], none⟩,
        ⟨some 10, .mv (.t 12), none⟩,
        ⟨some 13, .extract (.t 10) 0, none⟩,
        ⟨some 14, .extract (.t 10) 1, none⟩,
        ⟨some 3, .mv (.t 13), none⟩,
        ⟨some 4, .mv (.t 14), none⟩])
  (.seq (.seq (.region
        [⟨some 15, .mv (.t 0), none⟩,
          ⟨some 16, .bin .lss (.t 15) (.k (.c (.int .i64 1))), none⟩,
          ⟨some 17, .mv (.t 16), none⟩,
          ⟨some 18, .mv (.t 0), some (17, false)⟩,
          ⟨some 19, .bin .gtr (.t 18) (.k (.c (.int .i64 512))), some (17, false)⟩,
          ⟨some 20, .pick (.t 17) (.k (.c (.bool true))) (.t 19), none⟩])
    (.cond (.t 20)
      (.seq (.region
          [⟨some 21, .mv (.t 4), none⟩,
            ⟨some 22, .bin .eql (.t 21) (.k (.c (.int .i64 2))), none⟩,
            ⟨some 23, .mv (.t 22), none⟩,
            ⟨some 24, .mv (.t 3), some (23, true)⟩,
            ⟨some 25, .len false (.t 24), some (23, true)⟩,
            ⟨some 26, .bin .eql (.t 25) (.k (.c (.int .i64 0))), some (23, true)⟩,
            ⟨some 27, .pick (.t 23) (.t 26) (.k (.c (.bool false))), none⟩,
            ⟨some 2, .mv (.t 27), none⟩])
      (.ret))
      (.skip)))
  (.seq (.seq (.region
        [⟨some 28, .mv (.t 4), none⟩,
          ⟨some 29, .bin .neq (.t 28) (.k (.c (.int .i64 0))), none⟩,
          ⟨some 30, .mv (.t 29), none⟩,
          ⟨some 31, .mv (.t 3), some (30, false)⟩,
          ⟨some 32, .len false (.t 31), some (30, false)⟩,
          ⟨some 33, .mv (.t 0), some (30, false)⟩,
          ⟨some 34, .bin .mul (.k (.c (.int .i64 2))) (.t 33), some (30, false)⟩,
          ⟨some 35, .bin .neq (.t 32) (.t 34), some (30, false)⟩,
          ⟨some 36, .pick (.t 30) (.k (.c (.bool true))) (.t 35), none⟩])
    (.cond (.t 36)
      (.seq (.region
          [⟨some 2, .mv (.k (.c (.bool false))), none⟩])
      (.ret))
      (.skip)))
  (.seq (.region
      [⟨some 37, .mv (.t 0), none⟩,
        ⟨some 38, .bin .mul (.k (.c (.int .i64 2))) (.t 37), none⟩,
        ⟨some 39, .makeSlice ([.bool false]) 1 (.t 38) (.t 38), none⟩,
        ⟨some 5, .mv (.t 39), none⟩])
  (.seq (.seq (.region
        [⟨some 40, .mv (.t 3), none⟩,
          ⟨some 41, .len false (.t 40), none⟩,
          ⟨some 42, .mv (.k (.c (.int .i64 0))), none⟩])
    (.block 0
      (.loop
        (.seq (.region
            [⟨some 43, .bin .lss (.t 42) (.t 41), none⟩])
        (.seq (.cond (.t 43)
            (.skip)
            (.exit 0))
        (.seq (.block 1
            (.seq (.region
                [⟨some 44, .mv (.t 42), none⟩,
                  ⟨some 45, .idxSlc 1 (.t 40) (.t 42), none⟩,
                  ⟨some 46, .load1 (.t 45), none⟩,
                  ⟨some 6, .mv (.t 44), none⟩,
                  ⟨some 7, .mv (.t 46), none⟩])
            (.seq (.seq (.region
                  [⟨some 47, .mv (.t 7), none⟩,
                    ⟨some 48, .bin .lss (.t 47) (.k (.c (.int .i64 0))), none⟩,
                    ⟨some 49, .mv (.t 48), none⟩,
                    ⟨some 50, .mv (.t 7), some (49, false)⟩,
                    ⟨some 51, .mv (.t 0), some (49, false)⟩,
                    ⟨some 52, .bin .mul (.k (.c (.int .i64 2))) (.t 51), some (49, false)⟩,
                    ⟨some 53, .bin .geq (.t 50) (.t 52), some (49, false)⟩,
                    ⟨some 54, .pick (.t 49) (.k (.c (.bool true))) (.t 53), none⟩,
                    ⟨some 55, .mv (.t 54), none⟩,
                    ⟨some 56, .mv (.t 5), some (55, false)⟩,
                    ⟨some 57, .mv (.t 7), some (55, false)⟩,
                    ⟨some 58, .idxSlc 1 (.t 56) (.t 57), some (55, false)⟩,
                    ⟨some 59, .load1 (.t 58), some (55, false)⟩,
                    ⟨some 60, .pick (.t 55) (.k (.c (.bool true))) (.t 59), none⟩,
                    ⟨some 61, .mv (.t 60), none⟩,
                    ⟨some 62, .mv (.t 6), some (61, false)⟩,
                    ⟨some 63, .bin .rem (.t 62) (.k (.c (.int .i64 2))), some (61, false)⟩,
                    ⟨some 64, .bin .eql (.t 63) (.k (.c (.int .i64 0))), some (61, false)⟩,
                    ⟨some 65, .mv (.t 64), some (61, false)⟩,
                    ⟨some 66, .mv (.t 7), some (65, true)⟩,
                    ⟨some 67, .mv (.t 6), some (65, true)⟩,
                    ⟨some 68, .bin .quo (.t 67) (.k (.c (.int .i64 2))), some (65, true)⟩,
                    ⟨some 69, .bin .neq (.t 66) (.t 68), some (65, true)⟩,
                    ⟨some 70, .pick (.t 65) (.t 69) (.k (.c (.bool false))), some (61, false)⟩,
                    ⟨some 71, .pick (.t 61) (.k (.c (.bool true))) (.t 70), none⟩,
                    ⟨some 72, .mv (.t 71), none⟩,
                    ⟨some 73, .mv (.t 6), some (72, false)⟩,
                    ⟨some 74, .bin .rem (.t 73) (.k (.c (.int .i64 2))), some (72, false)⟩,
                    ⟨some 75, .bin .eql (.t 74) (.k (.c (.int .i64 1))), some (72, false)⟩,
                    ⟨some 76, .mv (.t 75), some (72, false)⟩,
                    ⟨some 77, .mv (.t 7), some (76, true)⟩,
                    ⟨some 78, .mv (.t 0), some (76, true)⟩,
                    ⟨some 79, .mv (.t 6), some (76, true)⟩,
                    ⟨some 80, .bin .quo (.t 79) (.k (.c (.int .i64 2))), some (76, true)⟩,
                    ⟨some 81, .bin .add (.t 78) (.t 80), some (76, true)⟩,
                    ⟨some 82, .bin .neq (.t 77) (.t 81), some (76, true)⟩,
                    ⟨some 83, .pick (.t 76) (.t 82) (.k (.c (.bool false))), some (72, false)⟩,
                    ⟨some 84, .pick (.t 72) (.k (.c (.bool true))) (.t 83), none⟩])
              (.cond (.t 84)
                (.seq (.region
                    [⟨some 2, .mv (.k (.c (.bool false))), none⟩])
                (.ret))
                (.skip)))
            (.region
              [⟨some 85, .mv (.t 5), none⟩,
                ⟨some 86, .mv (.t 7), none⟩,
                ⟨some 87, .idxSlc 1 (.t 85) (.t 86), none⟩,
                ⟨none, .store 1 (.t 87) (.k (.c (.bool true))), none⟩]))))
        (.region
          [⟨some 88, .bin .add (.t 42) (.k (.c (.int .i64 1))), none⟩,
            ⟨some 42, .mv (.t 88), none⟩])))))))
  (.seq (.region
      [⟨some 2, .mv (.k (.c (.bool true))), none⟩])
  (.ret)))))))))
theorem t_pestlelaw23_ShufflePlaces : A F_pestlelaw23_ShufflePlaces = some c_pestlelaw23_ShufflePlaces := by kernel_rfl

noncomputable def c_pestlelaw23_ShuffleMixes : AFn := AFn.mk 102 [.tmp 4]
  (.seq (.region
      [⟨some 4, .mv (.k (.c (.bool false))), none⟩])
  (.seq (.seq (.region
        [⟨some 12, .call F_pestlelaw23_awake [], none⟩,
          ⟨some 13, .un .not (.t 12), none⟩])
    (.cond (.t 13)
      (.seq (.region
          [⟨some 4, .mv (.k (.c (.bool false))), none⟩])
      (.ret))
      (.skip)))
  (.seq (.seq (.region
        [⟨some 14, .mv (.t 1), none⟩,
          ⟨some 15, .len false (.t 14), none⟩,
          ⟨some 16, .bin .gtr (.t 15) (.k (.c (.int .i64 600))), none⟩])
    (.cond (.t 16)
      (.seq (.region
          [⟨some 4, .mv (.k (.c (.bool true))), none⟩])
      (.ret))
      (.skip)))
  (.seq (.region
      [⟨some 18, .mv (.t 0), none⟩,
        ⟨some 19, .mv (.t 1), none⟩,
        ⟨some 20, .call F_shuffle_Mix [.t 18, .t 19], none⟩,
        ⟨some 17, .mv (.t 20), none⟩,
        ⟨some 21, .extract (.t 17) 0, none⟩,
        ⟨some 22, .extract (.t 17) 1, none⟩,
        ⟨some 5, .mv (.t 21), none⟩,
        ⟨some 6, .mv (.t 22), none⟩])
  (.seq (.region
      [⟨some 24, .mv (.t 0), none⟩,
        ⟨some 25, .mv (.t 1), none⟩,
        ⟨some 26, .call F_shuffle_Integer [.t 24, .t 25], none⟩,
        ⟨some 23, .mv (.t 26), none⟩,
        ⟨some 27, .extract (.t 23) 0, none⟩,
        ⟨some 28, .extract (.t 23) 1, none⟩,
        ⟨some 7, .mv (.t 27), none⟩,
        ⟨some 8, .mv (.t 28), none⟩])
  (.seq (.seq (.region
        [⟨some 29, .mv (.t 0), none⟩,
          ⟨some 30, .mv (.t 1), none⟩,
          ⟨some 31, .call F_pestleref23_Why [.t 29, .t 30], none⟩,
          ⟨some 9, .mv (.t 31), none⟩])
    (.seq (.region
        [⟨some 32, .mv (.t 9), none⟩,
          ⟨some 33, .bin .neq (.t 32) (.k (.c (.int .i64 0))), none⟩])
    (.cond (.t 33)
      (.seq (.region
          [⟨some 34, .mv (.t 6), none⟩,
            ⟨some 35, .mv (.t 9), none⟩,
            ⟨some 36, .bin .eql (.t 34) (.t 35), none⟩,
            ⟨some 37, .mv (.t 36), none⟩,
            ⟨some 38, .mv (.t 8), some (37, true)⟩,
            ⟨some 39, .mv (.t 9), some (37, true)⟩,
            ⟨some 40, .bin .eql (.t 38) (.t 39), some (37, true)⟩,
            ⟨some 41, .pick (.t 37) (.t 40) (.k (.c (.bool false))), none⟩,
            ⟨some 42, .mv (.t 41), none⟩,
            ⟨some 43, .mv (.t 5), some (42, true)⟩,
            ⟨some 44, .len false (.t 43), some (42, true)⟩,
            ⟨some 45, .bin .eql (.t 44) (.k (.c (.int .i64 0))), some (42, true)⟩,
            ⟨some 46, .pick (.t 42) (.t 45) (.k (.c (.bool false))), none⟩,
            ⟨some 47, .mv (.t 46), none⟩,
            ⟨some 48, .mv (.t 7), some (47, true)⟩,
            ⟨some 49, .bin .eql (.t 48) (.k (.c (.int .u64 0))), some (47, true)⟩,
            ⟨some 50, .pick (.t 47) (.t 49) (.k (.c (.bool false))), none⟩,
            ⟨some 51, .mv (.t 50), none⟩,
            ⟨some 52, .mv (.t 0), some (51, true)⟩,
            ⟨some 53, .mv (.t 1), some (51, true)⟩,
            ⟨some 54, .call F_shuffle_Check [.t 52, .t 53], some (51, true)⟩,
            ⟨some 55, .mv (.t 9), some (51, true)⟩,
            ⟨some 56, .bin .eql (.t 54) (.t 55), some (51, true)⟩,
            ⟨some 57, .pick (.t 51) (.t 56) (.k (.c (.bool false))), none⟩,
            ⟨some 4, .mv (.t 57), none⟩])
      (.ret))
      (.skip))))
  (.seq (.region
      [⟨some 58, .mv (.t 0), none⟩,
        ⟨some 59, .mv (.t 1), none⟩,
        ⟨some 60, .call F_pestleref23_Mix [.t 58, .t 59], none⟩,
        ⟨some 10, .mv (.t 60), none⟩])
  (.seq (.seq (.region
        [⟨some 61, .mv (.t 6), none⟩,
          ⟨some 62, .bin .neq (.t 61) (.k (.c (.int .i64 0))), none⟩,
          ⟨some 63, .mv (.t 62), none⟩,
          ⟨some 64, .mv (.t 8), some (63, false)⟩,
          ⟨some 65, .bin .neq (.t 64) (.k (.c (.int .i64 0))), some (63, false)⟩,
          ⟨some 66, .pick (.t 63) (.k (.c (.bool true))) (.t 65), none⟩,
          ⟨some 67, .mv (.t 66), none⟩,
          ⟨some 68, .mv (.t 0), some (67, false)⟩,
          ⟨some 69, .mv (.t 1), some (67, false)⟩,
          ⟨some 70, .call F_shuffle_Check [.t 68, .t 69], some (67, false)⟩,
          ⟨some 71, .bin .neq (.t 70) (.k (.c (.int .i64 0))), some (67, false)⟩,
          ⟨some 72, .pick (.t 67) (.k (.c (.bool true))) (.t 71), none⟩,
          ⟨some 73, .mv (.t 72), none⟩,
          ⟨some 74, .mv (.t 7), some (73, false)⟩,
          ⟨some 75, .mv (.t 0), some (73, false)⟩,
          ⟨some 76, .mv (.t 1), some (73, false)⟩,
          ⟨some 77, .call F_pestleref23_Integer [.t 75, .t 76], some (73, false)⟩,
          ⟨some 78, .bin .neq (.t 74) (.t 77), some (73, false)⟩,
          ⟨some 79, .pick (.t 73) (.k (.c (.bool true))) (.t 78), none⟩,
          ⟨some 80, .mv (.t 79), none⟩,
          ⟨some 81, .mv (.t 5), some (80, false)⟩,
          ⟨some 82, .len false (.t 81), some (80, false)⟩,
          ⟨some 83, .mv (.t 10), some (80, false)⟩,
          ⟨some 84, .len false (.t 83), some (80, false)⟩,
          ⟨some 85, .bin .neq (.t 82) (.t 84), some (80, false)⟩,
          ⟨some 86, .pick (.t 80) (.k (.c (.bool true))) (.t 85), none⟩])
    (.cond (.t 86)
      (.seq (.region
          [⟨some 4, .mv (.k (.c (.bool false))), none⟩])
      (.ret))
      (.skip)))
  (.seq (.seq (.region
        [⟨some 87, .mv (.t 5), none⟩,
          ⟨some 88, .len false (.t 87), none⟩,
          ⟨some 89, .mv (.k (.c (.int .i64 0))), none⟩])
    (.block 0
      (.loop
        (.seq (.region
            [⟨some 90, .bin .lss (.t 89) (.t 88), none⟩])
        (.seq (.cond (.t 90)
            (.skip)
            (.exit 0))
        (.seq (.block 1
            (.seq (.region
                [⟨some 91, .mv (.t 89), none⟩,
                  ⟨some 11, .mv (.t 91), none⟩])
            (.seq (.draw
                [⟨some 92, .mv (.t 5), none⟩,
                  ⟨some 93, .mv (.t 11), none⟩,
                  ⟨some 94, .idxSlc 1 (.t 92) (.t 93), none⟩,
                  ⟨some 95, .load1 (.t 94), none⟩,
                  ⟨some 96, .mv (.t 10), none⟩,
                  ⟨some 97, .mv (.t 11), none⟩,
                  ⟨some 98, .idxSlc 1 (.t 96) (.t 97), none⟩,
                  ⟨some 99, .load1 (.t 98), none⟩]
                [⟨some 100, .bin .neq (.t 95) (.t 99), none⟩])
            (.cond (.t 100)
              (.seq (.region
                  [⟨some 4, .mv (.k (.c (.bool false))), none⟩])
              (.ret))
              (.skip)))))
        (.region
          [⟨some 101, .bin .add (.t 89) (.k (.c (.int .i64 1))), none⟩,
            ⟨some 89, .mv (.t 101), none⟩])))))))
  (.seq (.region
      [⟨some 4, .mv (.k (.c (.bool true))), none⟩])
  (.ret)))))))))))
theorem t_pestlelaw23_ShuffleMixes : A F_pestlelaw23_ShuffleMixes = some c_pestlelaw23_ShuffleMixes := by kernel_rfl

noncomputable def c_pestlelaw23_awake : AFn := AFn.mk 48 [.tmp 0]
  (.seq (.region
      [⟨some 0, .mv (.k (.c (.bool false))), none⟩])
  (.seq (.region
      [⟨some 6, .call F_shuffle_Places [.k (.c (.int .i64 2))], none⟩,
        ⟨some 5, .mv (.t 6), none⟩,
        ⟨some 7, .extract (.t 5) 0, none⟩,
        ⟨some 8, .extract (.t 5) 1, none⟩,
        ⟨some 1, .mv (.t 7), none⟩,
        ⟨some 2, .mv (.t 8), none⟩])
  (.seq (.region
      [⟨some 10, .makeSlice ([.int .u32 0]) 4 (.k (.c (.int .i64 32))) (.k (.c (.int .i64 32))), none⟩,
        ⟨some 11, .call F_shuffle_Mix [.k (.c (.int .i64 1)), .t 10], none⟩,
        ⟨some 9, .mv (.t 11), none⟩,
        ⟨some 12, .extract (.t 9) 0, none⟩,
        ⟨some 13, .extract (.t 9) 1, none⟩,
        ⟨some 3, .mv (.t 12), none⟩,
        ⟨some 4, .mv (.t 13), none⟩])
  (.seq (.region
      [⟨some 14, .mv (.t 2), none⟩,
        ⟨some 15, .bin .eql (.t 14) (.k (.c (.int .i64 0))), none⟩,
        ⟨some 16, .mv (.t 15), none⟩,
        ⟨some 17, .mv (.t 1), some (16, true)⟩,
        ⟨some 18, .len false (.t 17), some (16, true)⟩,
        ⟨some 19, .bin .eql (.t 18) (.k (.c (.int .i64 4))), some (16, true)⟩,
        ⟨some 20, .pick (.t 16) (.t 19) (.k (.c (.bool false))), none⟩,
        ⟨some 21, .mv (.t 20), none⟩,
        ⟨some 22, .mv (.t 1), some (21, true)⟩,
        ⟨some 23, .idxSlc 1 (.t 22) (.k (.c (.int .i64 1))), some (21, true)⟩,
        ⟨some 24, .load1 (.t 23), some (21, true)⟩,
        ⟨some 25, .bin .eql (.t 24) (.k (.c (.int .i64 2))), some (21, true)⟩,
        ⟨some 26, .pick (.t 21) (.t 25) (.k (.c (.bool false))), none⟩,
        ⟨some 27, .mv (.t 26), none⟩,
        ⟨some 28, .mv (.t 1), some (27, true)⟩,
        ⟨some 29, .idxSlc 1 (.t 28) (.k (.c (.int .i64 2))), some (27, true)⟩,
        ⟨some 30, .load1 (.t 29), some (27, true)⟩,
        ⟨some 31, .bin .eql (.t 30) (.k (.c (.int .i64 1))), some (27, true)⟩,
        ⟨some 32, .pick (.t 27) (.t 31) (.k (.c (.bool false))), none⟩,
        ⟨some 33, .mv (.t 32), none⟩,
        ⟨some 34, .mv (.t 4), some (33, true)⟩,
        ⟨some 35, .bin .eql (.t 34) (.k (.c (.int .i64 0))), some (33, true)⟩,
        ⟨some 36, .pick (.t 33) (.t 35) (.k (.c (.bool false))), none⟩,
        ⟨some 37, .mv (.t 36), none⟩,
        ⟨some 38, .mv (.t 3), some (37, true)⟩,
        ⟨some 39, .len false (.t 38), some (37, true)⟩,
        ⟨some 40, .bin .eql (.t 39) (.k (.c (.int .i64 32))), some (37, true)⟩,
        ⟨some 41, .pick (.t 37) (.t 40) (.k (.c (.bool false))), none⟩,
        ⟨some 42, .mv (.t 41), none⟩,
        ⟨some 43, .mv (.t 3), some (42, true)⟩,
        ⟨some 44, .idxSlc 1 (.t 43) (.k (.c (.int .i64 0))), some (42, true)⟩,
        ⟨some 45, .load1 (.t 44), some (42, true)⟩,
        ⟨some 46, .bin .eql (.t 45) (.k (.c (.int .u32 0))), some (42, true)⟩,
        ⟨some 47, .pick (.t 42) (.t 46) (.k (.c (.bool false))), none⟩,
        ⟨some 0, .mv (.t 47), none⟩])
  (.ret)))))
theorem t_pestlelaw23_awake : A F_pestlelaw23_awake = some c_pestlelaw23_awake := by kernel_rfl
end PK
