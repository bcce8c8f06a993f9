/- Package feed as code of the abstract machine. -/
import Derived.Test.YtebccciodmlikaaKF
namespace PK
open Go PAbs

noncomputable def c_feed_New : AFn := AFn.mk 16 [.tmp 4, .tmp 5]
  (.seq (.region
      [⟨some 4, .mv (.k (.c (.pnil))), none⟩,
        ⟨some 5, .mv (.k (.c (.int .i64 0))), none⟩])
  (.seq (.seq (.region
        [⟨some 6, .mv (.t 0), none⟩,
          ⟨some 7, .bin .lss (.t 6) (.k (.c (.int .i64 1))), none⟩,
          ⟨some 8, .mv (.t 7), none⟩,
          ⟨some 9, .mv (.t 0), some (8, false)⟩,
          ⟨some 10, .bin .gtr (.t 9) (.k (.c (.int .i64 65536))), some (8, false)⟩,
          ⟨some 11, .pick (.t 8) (.k (.c (.bool true))) (.t 10), none⟩])
    (.cond (.t 11)
      (.seq (.region
          [⟨some 4, .mv (.k (.c (.pnil))), none⟩,
            ⟨some 5, .mv (.k (.c (.int .i64 1))), none⟩])
      (.ret))
      (.skip)))
  (.seq (.region
      [⟨some 12, .mv (.t 0), none⟩,
        ⟨some 13, .mv (.t 1), none⟩,
        ⟨some 14, .build ([.int .i64 0, .bool false, .snil, .int .i64 0]) [(0, 1, .t 12), (1, 1, .t 13)], none⟩,
        ⟨some 15, .box (.t 14), none⟩,
        ⟨some 4, .mv (.t 15), none⟩,
        ⟨some 5, .mv (.k (.c (.int .i64 0))), none⟩])
  (.ret))))
theorem t_feed_New : A F_feed_New = some c_feed_New := by kernel_rfl

noncomputable def c_feed_Feed_Put : AFn := AFn.mk 78 [.tmp 4]
  (.seq (.region
      [⟨some 4, .mv (.k (.c (.snil))), none⟩])
  (.seq (.seq (.region
        [⟨some 8, .mv (.t 0), none⟩,
          ⟨some 9, .eq false .ptr (.t 8) (.k (.c (.pnil))), none⟩,
          ⟨some 10, .mv (.t 9), none⟩,
          ⟨some 11, .mv (.t 0), some (10, false)⟩,
          ⟨some 12, .nilCheck (.t 11), some (10, false)⟩,
          ⟨some 13, .fieldAddr 0 (.t 12), some (10, false)⟩,
          ⟨some 14, .load1 (.t 13), some (10, false)⟩,
          ⟨some 15, .bin .eql (.t 14) (.k (.c (.int .i64 0))), some (10, false)⟩,
          ⟨some 16, .pick (.t 10) (.k (.c (.bool true))) (.t 15), none⟩])
    (.cond (.t 16)
      (.seq (.region
          [⟨some 4, .mv (.k (.c (.snil))), none⟩])
      (.ret))
      (.skip)))
  (.seq (.region
      [⟨some 5, .mv (.k (.c (.snil))), none⟩])
  (.seq (.seq (.region
        [⟨some 17, .mv (.t 1), none⟩,
          ⟨some 18, .len false (.t 17), none⟩,
          ⟨some 19, .mv (.k (.c (.int .i64 0))), none⟩])
    (.block 0
      (.loop
        (.seq (.region
            [⟨some 20, .bin .lss (.t 19) (.t 18), none⟩])
        (.seq (.cond (.t 20)
            (.skip)
            (.exit 0))
        (.seq (.block 1
            (.seq (.region
                [⟨some 21, .idxSlc 1 (.t 17) (.t 19), none⟩,
                  ⟨some 22, .load1 (.t 21), none⟩,
                  ⟨some 7, .mv (.t 22), none⟩])
            (.seq (.region
                [⟨some 23, .mv (.t 0), none⟩,
                  ⟨some 24, .nilCheck (.t 23), none⟩,
                  ⟨some 25, .fieldAddr 3 (.t 24), none⟩,
                  ⟨some 26, .load1 (.t 25), none⟩,
                  ⟨some 27, .mv (.t 7), none⟩,
                  ⟨some 28, .len true (.t 27), none⟩,
                  ⟨some 29, .bin .add (.t 26) (.t 28), none⟩,
                  ⟨some 30, .nilCheck (.t 23), none⟩,
                  ⟨some 31, .fieldAddr 3 (.t 30), none⟩,
                  ⟨none, .store 1 (.t 31) (.t 29), none⟩])
            (.seq (.region
                [⟨some 32, .mv (.t 0), none⟩,
                  ⟨some 33, .mv (.t 0), none⟩,
                  ⟨some 34, .nilCheck (.t 33), none⟩,
                  ⟨some 35, .fieldAddr 2 (.t 34), none⟩,
                  ⟨some 36, .load1 (.t 35), none⟩,
                  ⟨some 37, .mv (.t 7), none⟩,
                  ⟨some 38, .append ([.int .u8 0]) 1 (.t 36) (.t 37), none⟩,
                  ⟨some 39, .nilCheck (.t 32), none⟩,
                  ⟨some 40, .fieldAddr 2 (.t 39), none⟩,
                  ⟨none, .store 1 (.t 40) (.t 38), none⟩])
            (.block 2
              (.loop
                (.seq (.seq (.region
                      [⟨some 41, .mv (.t 0), none⟩,
                        ⟨some 42, .call F_feed_Feed_full [.t 41], none⟩])
                  (.cond (.t 42)
                    (.skip)
                    (.exit 2)))
                (.block 3
                  (.seq (.draw
                      [⟨some 43, .mv (.t 5), none⟩,
                        ⟨some 44, .mv (.t 0), none⟩,
                        ⟨some 45, .nilCheck (.t 44), none⟩,
                        ⟨some 46, .fieldAddr 2 (.t 45), none⟩,
                        ⟨some 47, .load1 (.t 46), none⟩,
                        ⟨some 48, .mv (.t 0), none⟩,
                        ⟨some 49, .nilCheck (.t 48), none⟩,
                        ⟨some 50, .fieldAddr 0 (.t 49), none⟩,
                        ⟨some 51, .load1 (.t 50), none⟩,
                        ⟨some 52, .sliceS 1 (.t 47) none (some (.t 51)), none⟩,
                        ⟨some 53, .append ([.int .u8 0]) 1 (.k (.c (.snil))) (.t 52), none⟩,
                        ⟨some 54, .buildSlice ([.snil]) 1 1 [(0, 1, .t 53)], none⟩]
                      [⟨some 55, .append ([.snil]) 24 (.t 43) (.t 54), none⟩,
                        ⟨some 5, .mv (.t 55), none⟩])
                  (.draw
                    [⟨some 56, .mv (.t 0), none⟩,
                      ⟨some 57, .mv (.t 0), none⟩,
                      ⟨some 58, .nilCheck (.t 57), none⟩,
                      ⟨some 59, .fieldAddr 2 (.t 58), none⟩,
                      ⟨some 60, .load1 (.t 59), none⟩,
                      ⟨some 61, .mv (.t 0), none⟩,
                      ⟨some 62, .nilCheck (.t 61), none⟩,
                      ⟨some 63, .fieldAddr 0 (.t 62), none⟩,
                      ⟨some 64, .load1 (.t 63), none⟩,
                      ⟨some 65, .sliceS 1 (.t 60) (some (.t 64)) none, none⟩]
                    [⟨some 66, .nilCheck (.t 56), none⟩,
                      ⟨some 67, .fieldAddr 2 (.t 66), none⟩,
                      ⟨none, .store 1 (.t 67) (.t 65), none⟩]))))))))))
        (.region
          [⟨some 68, .bin .add (.t 19) (.k (.c (.int .i64 1))), none⟩,
            ⟨some 19, .mv (.t 68), none⟩])))))))
  (.seq (.region
      [⟨some 69, .mv (.t 0), none⟩,
        ⟨some 70, .mv (.t 0), none⟩,
        ⟨some 71, .nilCheck (.t 70), none⟩,
        ⟨some 72, .fieldAddr 2 (.t 71), none⟩,
        ⟨some 73, .load1 (.t 72), none⟩,
        ⟨some 74, .append ([.int .u8 0]) 1 (.k (.c (.snil))) (.t 73), none⟩,
        ⟨some 75, .nilCheck (.t 69), none⟩,
        ⟨some 76, .fieldAddr 2 (.t 75), none⟩,
        ⟨none, .store 1 (.t 76) (.t 74), none⟩])
  (.seq (.region
      [⟨some 77, .mv (.t 5), none⟩,
        ⟨some 4, .mv (.t 77), none⟩])
  (.ret)))))))
theorem t_feed_Feed_Put : A F_feed_Feed_Put = some c_feed_Feed_Put := by kernel_rfl

noncomputable def c_feed_Feed_Rest : AFn := AFn.mk 10 [.tmp 2]
  (.seq (.region
      [⟨some 2, .mv (.k (.c (.snil))), none⟩])
  (.seq (.seq (.region
        [⟨some 3, .mv (.t 0), none⟩,
          ⟨some 4, .eq false .ptr (.t 3) (.k (.c (.pnil))), none⟩])
    (.cond (.t 4)
      (.seq (.region
          [⟨some 2, .mv (.k (.c (.snil))), none⟩])
      (.ret))
      (.skip)))
  (.seq (.region
      [⟨some 5, .mv (.t 0), none⟩,
        ⟨some 6, .nilCheck (.t 5), none⟩,
        ⟨some 7, .fieldAddr 2 (.t 6), none⟩,
        ⟨some 8, .load1 (.t 7), none⟩,
        ⟨some 9, .append ([.int .u8 0]) 1 (.k (.c (.snil))) (.t 8), none⟩,
        ⟨some 2, .mv (.t 9), none⟩])
  (.ret))))
theorem t_feed_Feed_Rest : A F_feed_Feed_Rest = some c_feed_Feed_Rest := by kernel_rfl

noncomputable def c_feed_Feed_Size : AFn := AFn.mk 9 [.tmp 2]
  (.seq (.region
      [⟨some 2, .mv (.k (.c (.int .i64 0))), none⟩])
  (.seq (.seq (.region
        [⟨some 3, .mv (.t 0), none⟩,
          ⟨some 4, .eq false .ptr (.t 3) (.k (.c (.pnil))), none⟩])
    (.cond (.t 4)
      (.seq (.region
          [⟨some 2, .mv (.k (.c (.int .i64 0))), none⟩])
      (.ret))
      (.skip)))
  (.seq (.region
      [⟨some 5, .mv (.t 0), none⟩,
        ⟨some 6, .nilCheck (.t 5), none⟩,
        ⟨some 7, .fieldAddr 0 (.t 6), none⟩,
        ⟨some 8, .load1 (.t 7), none⟩,
        ⟨some 2, .mv (.t 8), none⟩])
  (.ret))))
theorem t_feed_Feed_Size : A F_feed_Feed_Size = some c_feed_Feed_Size := by kernel_rfl

noncomputable def c_feed_Feed_Total : AFn := AFn.mk 9 [.tmp 2]
  (.seq (.region
      [⟨some 2, .mv (.k (.c (.int .i64 0))), none⟩])
  (.seq (.seq (.region
        [⟨some 3, .mv (.t 0), none⟩,
          ⟨some 4, .eq false .ptr (.t 3) (.k (.c (.pnil))), none⟩])
    (.cond (.t 4)
      (.seq (.region
          [⟨some 2, .mv (.k (.c (.int .i64 0))), none⟩])
      (.ret))
      (.skip)))
  (.seq (.region
      [⟨some 5, .mv (.t 0), none⟩,
        ⟨some 6, .nilCheck (.t 5), none⟩,
        ⟨some 7, .fieldAddr 3 (.t 6), none⟩,
        ⟨some 8, .load1 (.t 7), none⟩,
        ⟨some 2, .mv (.t 8), none⟩])
  (.ret))))
theorem t_feed_Feed_Total : A F_feed_Feed_Total = some c_feed_Feed_Total := by kernel_rfl

noncomputable def c_feed_Feed_Copy : AFn := AFn.mk 12 [.tmp 2]
  (.seq (.region
      [⟨some 2, .mv (.k (.c (.pnil))), none⟩])
  (.seq (.seq (.region
        [⟨some 4, .mv (.t 0), none⟩,
          ⟨some 5, .eq false .ptr (.t 4) (.k (.c (.pnil))), none⟩])
    (.cond (.t 5)
      (.seq (.region
          [⟨some 2, .mv (.k (.c (.pnil))), none⟩])
      (.ret))
      (.skip)))
  (.seq (.region
      [⟨some 6, .mv (.t 0), none⟩,
        ⟨some 7, .nilCheck (.t 6), none⟩,
        ⟨some 8, .loadN 4 (.t 7), none⟩,
        ⟨some 3, .alloc ([.int .i64 0, .bool false, .snil, .int .i64 0]), none⟩,
        ⟨none, .store 4 (.t 3) (.t 8), none⟩])
  (.seq (.region
      [⟨some 9, .mv (.t 0), none⟩,
        ⟨some 10, .call F_feed_Feed_Rest [.t 9], none⟩,
        ⟨some 11, .fieldAddr 2 (.t 3), none⟩,
        ⟨none, .store 1 (.t 11) (.t 10), none⟩])
  (.seq (.region
      [⟨some 2, .mv (.t 3), none⟩])
  (.ret))))))
theorem t_feed_Feed_Copy : A F_feed_Feed_Copy = some c_feed_Feed_Copy := by kernel_rfl

noncomputable def c_feed_Feed_full : AFn := AFn.mk 27 [.tmp 2]
  (.seq (.region
      [⟨some 2, .mv (.k (.c (.bool false))), none⟩])
  (.seq (.seq (.region
        [⟨some 3, .mv (.t 0), none⟩,
          ⟨some 4, .nilCheck (.t 3), none⟩,
          ⟨some 5, .fieldAddr 1 (.t 4), none⟩,
          ⟨some 6, .load1 (.t 5), none⟩])
    (.cond (.t 6)
      (.seq (.draw
          [⟨some 7, .mv (.t 0), none⟩,
            ⟨some 8, .nilCheck (.t 7), none⟩,
            ⟨some 9, .fieldAddr 2 (.t 8), none⟩,
            ⟨some 10, .load1 (.t 9), none⟩,
            ⟨some 11, .len false (.t 10), none⟩,
            ⟨some 12, .mv (.t 0), none⟩,
            ⟨some 13, .nilCheck (.t 12), none⟩,
            ⟨some 14, .fieldAddr 0 (.t 13), none⟩,
            ⟨some 15, .load1 (.t 14), none⟩]
          [⟨some 16, .bin .gtr (.t 11) (.t 15), none⟩,
            ⟨some 2, .mv (.t 16), none⟩])
      (.ret))
      (.skip)))
  (.seq (.draw
      [⟨some 17, .mv (.t 0), none⟩,
        ⟨some 18, .nilCheck (.t 17), none⟩,
        ⟨some 19, .fieldAddr 2 (.t 18), none⟩,
        ⟨some 20, .load1 (.t 19), none⟩,
        ⟨some 21, .len false (.t 20), none⟩,
        ⟨some 22, .mv (.t 0), none⟩,
        ⟨some 23, .nilCheck (.t 22), none⟩,
        ⟨some 24, .fieldAddr 0 (.t 23), none⟩,
        ⟨some 25, .load1 (.t 24), none⟩]
      [⟨some 26, .bin .geq (.t 21) (.t 25), none⟩,
        ⟨some 2, .mv (.t 26), none⟩])
  (.ret))))
theorem t_feed_Feed_full : A F_feed_Feed_full = some c_feed_Feed_full := by kernel_rfl
end PK
