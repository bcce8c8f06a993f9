/- Package pestlelaw04 as code of the abstract machine. -/
import Derived.Test.YtebccciodmlikaaKF
namespace PK
open Go PAbs

noncomputable def c_pestlelaw04_FeedParts : AFn := AFn.mk 108 [.tmp 6]
  (.seq (.region
      [⟨some 6, .mv (.k (.c (.bool false))), none⟩])
  (.seq (.seq (.region
        [⟨some 15, .call F_pestlelaw04_awake [], none⟩,
          ⟨some 16, .un .not (.t 15), none⟩])
    (.cond (.t 16)
      (.seq (.region
          [⟨some 6, .mv (.k (.c (.bool false))), none⟩])
      (.ret))
      (.skip)))
  (.seq (.seq (.region
        [⟨some 17, .mv (.t 0), none⟩,
          ⟨some 18, .bin .lss (.t 17) (.k (.c (.int .i64 1))), none⟩,
          ⟨some 19, .mv (.t 18), none⟩,
          ⟨some 20, .mv (.t 0), some (19, false)⟩,
          ⟨some 21, .bin .gtr (.t 20) (.k (.c (.int .i64 65536))), some (19, false)⟩,
          ⟨some 22, .pick (.t 19) (.k (.c (.bool true))) (.t 21), none⟩,
          ⟨some 23, .mv (.t 22), none⟩,
          ⟨some 24, .mv (.t 2), some (23, false)⟩,
          ⟨some 25, .len false (.t 24), some (23, false)⟩,
          ⟨some 26, .bin .gtr (.t 25) (.k (.c (.int .i64 50))), some (23, false)⟩,
          ⟨some 27, .pick (.t 23) (.k (.c (.bool true))) (.t 26), none⟩,
          ⟨some 28, .mv (.t 27), none⟩,
          ⟨some 29, .mv (.t 2), some (28, false)⟩,
          ⟨some 30, .call F_pestleref04_Bytes [.t 29], some (28, false)⟩,
          ⟨some 31, .bin .gtr (.t 30) (.k (.c (.int .i64 3000))), some (28, false)⟩,
          ⟨some 32, .pick (.t 28) (.k (.c (.bool true))) (.t 31), none⟩])
    (.cond (.t 32)
      (.seq (.region
          [⟨some 6, .mv (.k (.c (.bool true))), none⟩])
      (.ret))
      (.skip)))
  (.seq (.region
      [⟨some 34, .mv (.t 0), none⟩,
        ⟨some 35, .mv (.t 1), none⟩,
        ⟨some 36, .call F_feed_New [.t 34, .t 35], none⟩,
        ⟨some 33, .mv (.t 36), none⟩,
        ⟨some 37, .extract (.t 33) 0, none⟩,
        ⟨some 38, .extract (.t 33) 1, none⟩,
        ⟨some 7, .mv (.t 37), none⟩,
        ⟨some 8, .mv (.t 38), none⟩])
  (.seq (.region
      [⟨some 40, .mv (.t 0), none⟩,
        ⟨some 41, .mv (.t 1), none⟩,
        ⟨some 42, .call F_feed_New [.t 40, .t 41], none⟩,
        ⟨some 39, .mv (.t 42), none⟩,
        ⟨some 43, .extract (.t 39) 0, none⟩,
        ⟨some 44, .extract (.t 39) 1, none⟩,
        ⟨some 9, .mv (.t 43), none⟩,
        ⟨some 10, .mv (.t 44), none⟩])
  (.seq (.region
      [⟨some 45, .mv (.t 7), none⟩,
        ⟨some 46, .mv (.t 2), none⟩,
        ⟨some 47, .call F_feed_Feed_Put [.t 45, .t 46], none⟩,
        ⟨some 11, .mv (.t 47), none⟩])
  (.seq (.region
      [⟨some 48, .mv (.t 9), none⟩,
        ⟨some 49, .mv (.t 2), none⟩,
        ⟨some 50, .call F_pestleref04_Joined [.t 49], none⟩,
        ⟨some 51, .buildSlice ([.str []]) 1 1 [(0, 1, .t 50)], none⟩,
        ⟨some 52, .call F_feed_Feed_Put [.t 48, .t 51], none⟩,
        ⟨some 12, .mv (.t 52), none⟩])
  (.seq (.seq (.draw
        [⟨some 53, .mv (.t 11), none⟩,
          ⟨some 54, .len false (.t 53), none⟩,
          ⟨some 55, .mv (.t 12), none⟩,
          ⟨some 56, .len false (.t 55), none⟩,
          ⟨some 57, .bin .neq (.t 54) (.t 56), none⟩,
          ⟨some 58, .mv (.t 57), none⟩,
          ⟨some 59, .mv (.t 7), some (58, false)⟩,
          ⟨some 60, .call F_feed_Feed_Rest [.t 59], some (58, false)⟩,
          ⟨some 61, .bytesStr (.t 60), some (58, false)⟩,
          ⟨some 62, .mv (.t 9), some (58, false)⟩,
          ⟨some 63, .call F_feed_Feed_Rest [.t 62], some (58, false)⟩,
          ⟨some 64, .bytesStr (.t 63), some (58, false)⟩]
        [⟨some 65, .bin .neq (.t 61) (.t 64), some (58, false)⟩,
          ⟨some 66, .pick (.t 58) (.k (.c (.bool true))) (.t 65), none⟩])
    (.cond (.t 66)
      (.seq (.region
          [⟨some 6, .mv (.k (.c (.bool false))), none⟩])
      (.ret))
      (.skip)))
  (.seq (.region
      [⟨some 13, .mv (.k (.c (.str []))), none⟩])
  (.seq (.seq (.region
        [⟨some 67, .mv (.t 11), none⟩,
          ⟨some 68, .len false (.t 67), none⟩,
          ⟨some 69, .mv (.k (.c (.int .i64 0))), none⟩])
    (.block 0
      (.loop
        (.seq (.region
            [⟨some 70, .bin .lss (.t 69) (.t 68), none⟩])
        (.seq (.cond (.t 70)
            (.skip)
            (.exit 0))
        (.seq (.block 1
            (.seq (.region
                [⟨some 71, .mv (.t 69), none⟩,
                  ⟨some 14, .mv (.t 71), none⟩])
            (.seq (.seq (.draw
                  [⟨some 72, .mv (.t 11), none⟩,
                    ⟨some 73, .mv (.t 14), none⟩,
                    ⟨some 74, .idxSlc 1 (.t 72) (.t 73), none⟩,
                    ⟨some 75, .load1 (.t 74), none⟩,
                    ⟨some 76, .len false (.t 75), none⟩,
                    ⟨some 77, .mv (.t 0), none⟩,
                    ⟨some 78, .bin .neq (.t 76) (.t 77), none⟩,
                    ⟨some 79, .mv (.t 78), none⟩,
                    ⟨some 80, .mv (.t 11), some (79, false)⟩,
                    ⟨some 81, .mv (.t 14), some (79, false)⟩,
                    ⟨some 82, .idxSlc 1 (.t 80) (.t 81), some (79, false)⟩,
                    ⟨some 83, .load1 (.t 82), some (79, false)⟩,
                    ⟨some 84, .bytesStr (.t 83), some (79, false)⟩,
                    ⟨some 85, .mv (.t 12), some (79, false)⟩,
                    ⟨some 86, .mv (.t 14), some (79, false)⟩,
                    ⟨some 87, .idxSlc 1 (.t 85) (.t 86), some (79, false)⟩,
                    ⟨some 88, .load1 (.t 87), some (79, false)⟩,
                    ⟨some 89, .bytesStr (.t 88), some (79, false)⟩]
                  [⟨some 90, .bin .neq (.t 84) (.t 89), some (79, false)⟩,
                    ⟨some 91, .pick (.t 79) (.k (.c (.bool true))) (.t 90), none⟩])
              (.cond (.t 91)
                (.seq (.region
                    [⟨some 6, .mv (.k (.c (.bool false))), none⟩])
                (.ret))
                (.skip)))
            (.region
              [⟨some 92, .mv (.t 13), none⟩,
                ⟨some 93, .mv (.t 11), none⟩,
                ⟨some 94, .mv (.t 14), none⟩,
                ⟨some 95, .idxSlc 1 (.t 93) (.t 94), none⟩,
                ⟨some 96, .load1 (.t 95), none⟩,
                ⟨some 97, .bytesStr (.t 96), none⟩,
                ⟨some 98, .bin .add (.t 92) (.t 97), none⟩,
                ⟨some 13, .mv (.t 98), none⟩]))))
        (.region
          [⟨some 99, .bin .add (.t 69) (.k (.c (.int .i64 1))), none⟩,
            ⟨some 69, .mv (.t 99), none⟩])))))))
  (.seq (.draw
      [⟨some 100, .mv (.t 13), none⟩,
        ⟨some 101, .mv (.t 7), none⟩,
        ⟨some 102, .call F_feed_Feed_Rest [.t 101], none⟩,
        ⟨some 103, .bytesStr (.t 102), none⟩,
        ⟨some 104, .bin .add (.t 100) (.t 103), none⟩,
        ⟨some 105, .mv (.t 2), none⟩,
        ⟨some 106, .call F_pestleref04_Joined [.t 105], none⟩]
      [⟨some 107, .bin .eql (.t 104) (.t 106), none⟩,
        ⟨some 6, .mv (.t 107), none⟩])
  (.ret))))))))))))
theorem t_pestlelaw04_FeedParts : A F_pestlelaw04_FeedParts = some c_pestlelaw04_FeedParts := by kernel_rfl

noncomputable def c_pestlelaw04_FeedBlocks : AFn := AFn.mk 111 [.tmp 6]
  (.seq (.region
      [⟨some 6, .mv (.k (.c (.bool false))), none⟩])
  (.seq (.seq (.region
        [⟨some 16, .call F_pestlelaw04_awake [], none⟩,
          ⟨some 17, .un .not (.t 16), none⟩])
    (.cond (.t 17)
      (.seq (.region
          [⟨some 6, .mv (.k (.c (.bool false))), none⟩])
      (.ret))
      (.skip)))
  (.seq (.region
      [⟨some 19, .mv (.t 0), none⟩,
        ⟨some 20, .mv (.t 1), none⟩,
        ⟨some 21, .call F_feed_New [.t 19, .t 20], none⟩,
        ⟨some 18, .mv (.t 21), none⟩,
        ⟨some 22, .extract (.t 18) 0, none⟩,
        ⟨some 23, .extract (.t 18) 1, none⟩,
        ⟨some 7, .mv (.t 22), none⟩,
        ⟨some 8, .mv (.t 23), none⟩])
  (.seq (.seq (.region
        [⟨some 24, .mv (.t 0), none⟩,
          ⟨some 25, .bin .lss (.t 24) (.k (.c (.int .i64 1))), none⟩,
          ⟨some 26, .mv (.t 25), none⟩,
          ⟨some 27, .mv (.t 0), some (26, false)⟩,
          ⟨some 28, .bin .gtr (.t 27) (.k (.c (.int .i64 65536))), some (26, false)⟩,
          ⟨some 29, .pick (.t 26) (.k (.c (.bool true))) (.t 28), none⟩])
    (.cond (.t 29)
      (.seq (.region
          [⟨some 30, .mv (.t 8), none⟩,
            ⟨some 31, .bin .eql (.t 30) (.k (.c (.int .i64 1))), none⟩,
            ⟨some 32, .mv (.t 31), none⟩,
            ⟨some 33, .mv (.t 7), some (32, true)⟩,
            ⟨some 34, .eq false .ptr (.t 33) (.k (.c (.pnil))), some (32, true)⟩,
            ⟨some 35, .pick (.t 32) (.t 34) (.k (.c (.bool false))), none⟩,
            ⟨some 6, .mv (.t 35), none⟩])
      (.ret))
      (.skip)))
  (.seq (.seq (.region
        [⟨some 36, .mv (.t 8), none⟩,
          ⟨some 37, .bin .neq (.t 36) (.k (.c (.int .i64 0))), none⟩,
          ⟨some 38, .mv (.t 37), none⟩,
          ⟨some 39, .mv (.t 7), some (38, false)⟩,
          ⟨some 40, .call F_feed_Feed_Size [.t 39], some (38, false)⟩,
          ⟨some 41, .mv (.t 0), some (38, false)⟩,
          ⟨some 42, .bin .neq (.t 40) (.t 41), some (38, false)⟩,
          ⟨some 43, .pick (.t 38) (.k (.c (.bool true))) (.t 42), none⟩,
          ⟨some 44, .mv (.t 43), none⟩,
          ⟨some 45, .mv (.t 2), some (44, false)⟩,
          ⟨some 46, .len false (.t 45), some (44, false)⟩,
          ⟨some 47, .bin .gtr (.t 46) (.k (.c (.int .i64 50))), some (44, false)⟩,
          ⟨some 48, .pick (.t 44) (.k (.c (.bool true))) (.t 47), none⟩,
          ⟨some 49, .mv (.t 48), none⟩,
          ⟨some 50, .mv (.t 2), some (49, false)⟩,
          ⟨some 51, .call F_pestleref04_Bytes [.t 50], some (49, false)⟩,
          ⟨some 52, .bin .gtr (.t 51) (.k (.c (.int .i64 3000))), some (49, false)⟩,
          ⟨some 53, .pick (.t 49) (.k (.c (.bool true))) (.t 52), none⟩])
    (.cond (.t 53)
      (.seq (.region
          [⟨some 54, .mv (.t 8), none⟩,
            ⟨some 55, .bin .eql (.t 54) (.k (.c (.int .i64 0))), none⟩,
            ⟨some 56, .mv (.t 55), none⟩,
            ⟨some 57, .mv (.t 7), some (56, true)⟩,
            ⟨some 58, .call F_feed_Feed_Size [.t 57], some (56, true)⟩,
            ⟨some 59, .mv (.t 0), some (56, true)⟩,
            ⟨some 60, .bin .eql (.t 58) (.t 59), some (56, true)⟩,
            ⟨some 61, .pick (.t 56) (.t 60) (.k (.c (.bool false))), none⟩,
            ⟨some 6, .mv (.t 61), none⟩])
      (.ret))
      (.skip)))
  (.seq (.region
      [⟨some 9, .mv (.k (.c (.str []))), none⟩,
        ⟨some 10, .mv (.k (.c (.int .i64 0))), none⟩])
  (.seq (.seq (.region
        [⟨some 62, .mv (.t 2), none⟩,
          ⟨some 63, .len false (.t 62), none⟩,
          ⟨some 64, .mv (.k (.c (.int .i64 0))), none⟩])
    (.block 0
      (.loop
        (.seq (.region
            [⟨some 65, .bin .lss (.t 64) (.t 63), none⟩])
        (.seq (.cond (.t 65)
            (.skip)
            (.exit 0))
        (.seq (.block 1
            (.seq (.region
                [⟨some 66, .idxSlc 1 (.t 62) (.t 64), none⟩,
                  ⟨some 67, .load1 (.t 66), none⟩,
                  ⟨some 12, .mv (.t 67), none⟩])
            (.seq (.region
                [⟨some 68, .mv (.t 9), none⟩,
                  ⟨some 69, .mv (.t 12), none⟩,
                  ⟨some 70, .bin .add (.t 68) (.t 69), none⟩,
                  ⟨some 9, .mv (.t 70), none⟩])
            (.seq (.region
                [⟨some 71, .mv (.t 7), none⟩,
                  ⟨some 72, .mv (.t 12), none⟩,
                  ⟨some 73, .buildSlice ([.str []]) 1 1 [(0, 1, .t 72)], none⟩,
                  ⟨some 74, .call F_feed_Feed_Put [.t 71, .t 73], none⟩,
                  ⟨some 13, .mv (.t 74), none⟩])
            (.seq (.region
                [⟨some 76, .mv (.t 9), none⟩,
                  ⟨some 77, .mv (.t 0), none⟩,
                  ⟨some 78, .mv (.t 1), none⟩,
                  ⟨some 79, .call F_pestleref04_Blocks [.t 76, .t 77, .t 78], none⟩,
                  ⟨some 75, .mv (.t 79), none⟩,
                  ⟨some 80, .extract (.t 75) 0, none⟩,
                  ⟨some 81, .extract (.t 75) 1, none⟩,
                  ⟨some 14, .mv (.t 80), none⟩,
                  ⟨some 15, .mv (.t 81), none⟩])
            (.seq (.seq (.region
                  [⟨some 82, .mv (.t 14), none⟩,
                    ⟨some 83, .len false (.t 82), none⟩,
                    ⟨some 84, .mv (.t 10), none⟩,
                    ⟨some 85, .bin .lss (.t 83) (.t 84), none⟩,
                    ⟨some 86, .mv (.t 85), none⟩,
                    ⟨some 87, .mv (.t 13), some (86, false)⟩,
                    ⟨some 88, .mv (.t 14), some (86, false)⟩,
                    ⟨some 89, .mv (.t 10), some (86, false)⟩,
                    ⟨some 90, .sliceS 1 (.t 88) (some (.t 89)) none, some (86, false)⟩,
                    ⟨some 91, .call F_pestlelaw04_same [.t 87, .t 90], some (86, false)⟩,
                    ⟨some 92, .un .not (.t 91), some (86, false)⟩,
                    ⟨some 93, .pick (.t 86) (.k (.c (.bool true))) (.t 92), none⟩,
                    ⟨some 94, .mv (.t 93), none⟩,
                    ⟨some 95, .mv (.t 7), some (94, false)⟩,
                    ⟨some 96, .call F_feed_Feed_Rest [.t 95], some (94, false)⟩,
                    ⟨some 97, .bytesStr (.t 96), some (94, false)⟩,
                    ⟨some 98, .mv (.t 15), some (94, false)⟩,
                    ⟨some 99, .bin .neq (.t 97) (.t 98), some (94, false)⟩,
                    ⟨some 100, .pick (.t 94) (.k (.c (.bool true))) (.t 99), none⟩,
                    ⟨some 101, .mv (.t 100), none⟩,
                    ⟨some 102, .mv (.t 7), some (101, false)⟩,
                    ⟨some 103, .call F_feed_Feed_Total [.t 102], some (101, false)⟩,
                    ⟨some 104, .mv (.t 9), some (101, false)⟩,
                    ⟨some 105, .len true (.t 104), some (101, false)⟩,
                    ⟨some 106, .bin .neq (.t 103) (.t 105), some (101, false)⟩,
                    ⟨some 107, .pick (.t 101) (.k (.c (.bool true))) (.t 106), none⟩])
              (.cond (.t 107)
                (.seq (.region
                    [⟨some 6, .mv (.k (.c (.bool false))), none⟩])
                (.ret))
                (.skip)))
            (.region
              [⟨some 108, .mv (.t 14), none⟩,
                ⟨some 109, .len false (.t 108), none⟩,
                ⟨some 10, .mv (.t 109), none⟩])))))))
        (.region
          [⟨some 110, .bin .add (.t 64) (.k (.c (.int .i64 1))), none⟩,
            ⟨some 64, .mv (.t 110), none⟩])))))))
  (.seq (.region
      [⟨some 6, .mv (.k (.c (.bool true))), none⟩])
  (.ret)))))))))
theorem t_pestlelaw04_FeedBlocks : A F_pestlelaw04_FeedBlocks = some c_pestlelaw04_FeedBlocks := by kernel_rfl

noncomputable def c_pestlelaw04_FeedCopies : AFn := AFn.mk 124 [.tmp 8]
  (.seq (.region
      [⟨some 8, .mv (.k (.c (.bool false))), none⟩])
  (.seq (.seq (.region
        [⟨some 17, .call F_pestlelaw04_awake [], none⟩,
          ⟨some 18, .un .not (.t 17), none⟩])
    (.cond (.t 18)
      (.seq (.region
          [⟨some 8, .mv (.k (.c (.bool false))), none⟩])
      (.ret))
      (.skip)))
  (.seq (.region
      [⟨some 9, .mv (.k (.c (.pnil))), none⟩])
  (.seq (.seq (.region
        [⟨some 19, .mv (.t 9), none⟩,
          ⟨some 20, .call F_feed_Feed_Size [.t 19], none⟩,
          ⟨some 21, .mv (.t 9), none⟩,
          ⟨some 22, .call F_feed_Feed_Total [.t 21], none⟩,
          ⟨some 23, .bin .add (.t 20) (.t 22), none⟩,
          ⟨some 24, .mv (.t 9), none⟩,
          ⟨some 25, .call F_feed_Feed_Rest [.t 24], none⟩,
          ⟨some 26, .len false (.t 25), none⟩,
          ⟨some 27, .bin .add (.t 23) (.t 26), none⟩,
          ⟨some 28, .mv (.t 9), none⟩,
          ⟨some 29, .mv (.t 3), none⟩,
          ⟨some 30, .buildSlice ([.str []]) 1 1 [(0, 1, .t 29)], none⟩,
          ⟨some 31, .call F_feed_Feed_Put [.t 28, .t 30], none⟩,
          ⟨some 32, .len false (.t 31), none⟩,
          ⟨some 33, .bin .add (.t 27) (.t 32), none⟩,
          ⟨some 34, .bin .neq (.t 33) (.k (.c (.int .i64 0))), none⟩,
          ⟨some 35, .mv (.t 34), none⟩,
          ⟨some 36, .mv (.t 9), some (35, false)⟩,
          ⟨some 37, .call F_feed_Feed_Copy [.t 36], some (35, false)⟩,
          ⟨some 38, .eq true .ptr (.t 37) (.k (.c (.pnil))), some (35, false)⟩,
          ⟨some 39, .pick (.t 35) (.k (.c (.bool true))) (.t 38), none⟩])
    (.cond (.t 39)
      (.seq (.region
          [⟨some 8, .mv (.k (.c (.bool false))), none⟩])
      (.ret))
      (.skip)))
  (.seq (.region
      [⟨some 41, .mv (.t 0), none⟩,
        ⟨some 42, .mv (.t 1), none⟩,
        ⟨some 43, .call F_feed_New [.t 41, .t 42], none⟩,
        ⟨some 40, .mv (.t 43), none⟩,
        ⟨some 44, .extract (.t 40) 0, none⟩,
        ⟨some 45, .extract (.t 40) 1, none⟩,
        ⟨some 10, .mv (.t 44), none⟩,
        ⟨some 11, .mv (.t 45), none⟩])
  (.seq (.seq (.region
        [⟨some 46, .mv (.t 11), none⟩,
          ⟨some 47, .bin .neq (.t 46) (.k (.c (.int .i64 0))), none⟩,
          ⟨some 48, .mv (.t 47), none⟩,
          ⟨some 49, .mv (.t 2), some (48, false)⟩,
          ⟨some 50, .len false (.t 49), some (48, false)⟩,
          ⟨some 51, .bin .gtr (.t 50) (.k (.c (.int .i64 50))), some (48, false)⟩,
          ⟨some 52, .pick (.t 48) (.k (.c (.bool true))) (.t 51), none⟩,
          ⟨some 53, .mv (.t 52), none⟩,
          ⟨some 54, .mv (.t 2), some (53, false)⟩,
          ⟨some 55, .call F_pestleref04_Bytes [.t 54], some (53, false)⟩,
          ⟨some 56, .bin .gtr (.t 55) (.k (.c (.int .i64 3000))), some (53, false)⟩,
          ⟨some 57, .pick (.t 53) (.k (.c (.bool true))) (.t 56), none⟩,
          ⟨some 58, .mv (.t 57), none⟩,
          ⟨some 59, .mv (.t 3), some (58, false)⟩,
          ⟨some 60, .len true (.t 59), some (58, false)⟩,
          ⟨some 61, .bin .gtr (.t 60) (.k (.c (.int .i64 1000))), some (58, false)⟩,
          ⟨some 62, .pick (.t 58) (.k (.c (.bool true))) (.t 61), none⟩])
    (.cond (.t 62)
      (.seq (.region
          [⟨some 8, .mv (.k (.c (.bool true))), none⟩])
      (.ret))
      (.skip)))
  (.seq (.region
      [⟨some 63, .mv (.t 10), none⟩,
        ⟨some 64, .mv (.t 2), none⟩,
        ⟨some 65, .call F_feed_Feed_Put [.t 63, .t 64], none⟩])
  (.seq (.region
      [⟨some 66, .mv (.t 10), none⟩,
        ⟨some 67, .call F_feed_Feed_Rest [.t 66], none⟩,
        ⟨some 68, .bytesStr (.t 67), none⟩,
        ⟨some 12, .mv (.t 68), none⟩])
  (.seq (.region
      [⟨some 69, .mv (.t 10), none⟩,
        ⟨some 70, .call F_feed_Feed_Copy [.t 69], none⟩,
        ⟨some 13, .mv (.t 70), none⟩])
  (.seq (.region
      [⟨some 71, .mv (.t 13), none⟩,
        ⟨some 72, .mv (.t 3), none⟩,
        ⟨some 73, .buildSlice ([.str []]) 1 1 [(0, 1, .t 72)], none⟩,
        ⟨some 74, .call F_feed_Feed_Put [.t 71, .t 73], none⟩])
  (.seq (.seq (.region
        [⟨some 75, .mv (.t 10), none⟩,
          ⟨some 76, .call F_feed_Feed_Rest [.t 75], none⟩,
          ⟨some 77, .buildSlice ([.snil]) 1 1 [(0, 1, .t 76)], none⟩,
          ⟨some 78, .len false (.t 77), none⟩,
          ⟨some 79, .mv (.k (.c (.int .i64 0))), none⟩])
    (.block 0
      (.loop
        (.seq (.region
            [⟨some 80, .bin .lss (.t 79) (.t 78), none⟩])
        (.seq (.cond (.t 80)
            (.skip)
            (.exit 0))
        (.seq (.block 1
            (.seq (.region
                [⟨some 81, .idxSlc 1 (.t 77) (.t 79), none⟩,
                  ⟨some 82, .load1 (.t 81), none⟩,
                  ⟨some 15, .mv (.t 82), none⟩])
            (.seq (.region
                [⟨some 83, .mv (.t 15), none⟩,
                  ⟨some 84, .len false (.t 83), none⟩,
                  ⟨some 85, .mv (.k (.c (.int .i64 0))), none⟩])
            (.block 2
              (.loop
                (.seq (.region
                    [⟨some 86, .bin .lss (.t 85) (.t 84), none⟩])
                (.seq (.cond (.t 86)
                    (.skip)
                    (.exit 2))
                (.seq (.block 3
                    (.seq (.region
                        [⟨some 87, .mv (.t 85), none⟩,
                          ⟨some 16, .mv (.t 87), none⟩])
                    (.region
                      [⟨some 88, .mv (.t 15), none⟩,
                        ⟨some 89, .mv (.t 16), none⟩,
                        ⟨some 90, .idxSlc 1 (.t 88) (.t 89), none⟩,
                        ⟨some 91, .load1 (.t 90), none⟩,
                        ⟨some 92, .bin .add (.t 91) (.k (.c (.int .u8 1))), none⟩,
                        ⟨some 93, .idxSlc 1 (.t 88) (.t 89), none⟩,
                        ⟨none, .store 1 (.t 93) (.t 92), none⟩])))
                (.region
                  [⟨some 94, .bin .add (.t 85) (.k (.c (.int .i64 1))), none⟩,
                    ⟨some 85, .mv (.t 94), none⟩])))))))))
        (.region
          [⟨some 95, .bin .add (.t 79) (.k (.c (.int .i64 1))), none⟩,
            ⟨some 79, .mv (.t 95), none⟩])))))))
  (.seq (.region
      [⟨some 96, .mv (.t 10), none⟩,
        ⟨some 97, .call F_feed_Feed_Rest [.t 96], none⟩,
        ⟨some 98, .bytesStr (.t 97), none⟩,
        ⟨some 99, .mv (.t 12), none⟩,
        ⟨some 100, .bin .eql (.t 98) (.t 99), none⟩,
        ⟨some 101, .mv (.t 100), none⟩,
        ⟨some 102, .mv (.t 10), some (101, true)⟩,
        ⟨some 103, .call F_feed_Feed_Total [.t 102], some (101, true)⟩,
        ⟨some 104, .mv (.t 2), some (101, true)⟩,
        ⟨some 105, .call F_pestleref04_Bytes [.t 104], some (101, true)⟩,
        ⟨some 106, .bin .eql (.t 103) (.t 105), some (101, true)⟩,
        ⟨some 107, .pick (.t 101) (.t 106) (.k (.c (.bool false))), none⟩,
        ⟨some 108, .mv (.t 107), none⟩,
        ⟨some 109, .mv (.t 13), some (108, true)⟩,
        ⟨some 110, .call F_feed_Feed_Total [.t 109], some (108, true)⟩,
        ⟨some 111, .mv (.t 10), some (108, true)⟩,
        ⟨some 112, .call F_feed_Feed_Total [.t 111], some (108, true)⟩,
        ⟨some 113, .mv (.t 3), some (108, true)⟩,
        ⟨some 114, .len true (.t 113), some (108, true)⟩,
        ⟨some 115, .bin .add (.t 112) (.t 114), some (108, true)⟩,
        ⟨some 116, .bin .eql (.t 110) (.t 115), some (108, true)⟩,
        ⟨some 117, .pick (.t 108) (.t 116) (.k (.c (.bool false))), none⟩,
        ⟨some 118, .mv (.t 117), none⟩,
        ⟨some 119, .mv (.t 13), some (118, true)⟩,
        ⟨some 120, .call F_feed_Feed_Size [.t 119], some (118, true)⟩,
        ⟨some 121, .mv (.t 0), some (118, true)⟩,
        ⟨some 122, .bin .eql (.t 120) (.t 121), some (118, true)⟩,
        ⟨some 123, .pick (.t 118) (.t 122) (.k (.c (.bool false))), none⟩,
        ⟨some 8, .mv (.t 123), none⟩])
  (.ret)))))))))))))
theorem t_pestlelaw04_FeedCopies : A F_pestlelaw04_FeedCopies = some c_pestlelaw04_FeedCopies := by kernel_rfl

noncomputable def c_pestlelaw04_awake : AFn := AFn.mk 46 [.tmp 0]
  (.seq (.region
      [⟨some 0, .mv (.k (.c (.bool false))), none⟩])
  (.seq (.region
      [⟨some 8, .call F_feed_New [.k (.c (.int .i64 4)), .k (.c (.bool false))], none⟩,
        ⟨some 7, .mv (.t 8), none⟩,
        ⟨some 9, .extract (.t 7) 0, none⟩,
        ⟨some 10, .extract (.t 7) 1, none⟩,
        ⟨some 1, .mv (.t 9), none⟩,
        ⟨some 2, .mv (.t 10), none⟩])
  (.seq (.region
      [⟨some 12, .call F_feed_New [.k (.c (.int .i64 4)), .k (.c (.bool true))], none⟩,
        ⟨some 11, .mv (.t 12), none⟩,
        ⟨some 13, .extract (.t 11) 0, none⟩,
        ⟨some 14, .extract (.t 11) 1, none⟩,
        ⟨some 3, .mv (.t 13), none⟩,
        ⟨some 4, .mv (.t 14), none⟩])
  (.seq (.region
      [⟨some 15, .mv (.t 1), none⟩,
        ⟨some 16, .buildSlice ([.str [], .str []]) 1 2 [(0, 1, .k (.c (.str [97, 98, 99]))), (1, 1, .k (.c (.str [100, 101, 102, 103, 104])))], none⟩,
        ⟨some 17, .call F_feed_Feed_Put [.t 15, .t 16], none⟩,
        ⟨some 5, .mv (.t 17), none⟩])
  (.seq (.region
      [⟨some 18, .mv (.t 3), none⟩,
        ⟨some 19, .buildSlice ([.str [], .str []]) 1 2 [(0, 1, .k (.c (.str [97, 98, 99]))), (1, 1, .k (.c (.str [100, 101, 102, 103, 104])))], none⟩,
        ⟨some 20, .call F_feed_Feed_Put [.t 18, .t 19], none⟩,
        ⟨some 6, .mv (.t 20), none⟩])
  (.seq (.region
      [⟨some 21, .mv (.t 2), none⟩,
        ⟨some 22, .bin .eql (.t 21) (.k (.c (.int .i64 0))), none⟩,
        ⟨some 23, .mv (.t 22), none⟩,
        ⟨some 24, .mv (.t 5), some (23, true)⟩,
        ⟨some 25, .len false (.t 24), some (23, true)⟩,
        ⟨some 26, .bin .eql (.t 25) (.k (.c (.int .i64 2))), some (23, true)⟩,
        ⟨some 27, .pick (.t 23) (.t 26) (.k (.c (.bool false))), none⟩,
        ⟨some 28, .mv (.t 27), none⟩,
        ⟨some 29, .mv (.t 5), some (28, true)⟩,
        ⟨some 30, .idxSlc 1 (.t 29) (.k (.c (.int .i64 1))), some (28, true)⟩,
        ⟨some 31, .load1 (.t 30), some (28, true)⟩,
        ⟨some 32, .bytesStr (.t 31), some (28, true)⟩,
        ⟨some 33, .bin .eql (.t 32) (.k (.c (.str [101, 102, 103, 104]))), some (28, true)⟩,
        ⟨some 34, .pick (.t 28) (.t 33) (.k (.c (.bool false))), none⟩,
        ⟨some 35, .mv (.t 34), none⟩,
        ⟨some 36, .mv (.t 6), some (35, true)⟩,
        ⟨some 37, .len false (.t 36), some (35, true)⟩,
        ⟨some 38, .bin .eql (.t 37) (.k (.c (.int .i64 1))), some (35, true)⟩,
        ⟨some 39, .pick (.t 35) (.t 38) (.k (.c (.bool false))), none⟩,
        ⟨some 40, .mv (.t 39), none⟩,
        ⟨some 41, .mv (.t 3), some (40, true)⟩,
        ⟨some 42, .call F_feed_Feed_Rest [.t 41], some (40, true)⟩,
        ⟨some 43, .bytesStr (.t 42), some (40, true)⟩,
        ⟨some 44, .bin .eql (.t 43) (.k (.c (.str [101, 102, 103, 104]))), some (40, true)⟩,
        ⟨some 45, .pick (.t 40) (.t 44) (.k (.c (.bool false))), none⟩,
        ⟨some 0, .mv (.t 45), none⟩])
  (.ret)))))))
theorem t_pestlelaw04_awake : A F_pestlelaw04_awake = some c_pestlelaw04_awake := by kernel_rfl

noncomputable def c_pestlelaw04_same : AFn := AFn.mk 27 [.tmp 4]
  (.seq (.region
      [⟨some 4, .mv (.k (.c (.bool false))), none⟩])
  (.seq (.seq (.region
        [⟨some 6, .mv (.t 0), none⟩,
          ⟨some 7, .len false (.t 6), none⟩,
          ⟨some 8, .mv (.t 1), none⟩,
          ⟨some 9, .len false (.t 8), none⟩,
          ⟨some 10, .bin .neq (.t 7) (.t 9), none⟩])
    (.cond (.t 10)
      (.seq (.region
          [⟨some 4, .mv (.k (.c (.bool false))), none⟩])
      (.ret))
      (.skip)))
  (.seq (.seq (.region
        [⟨some 11, .mv (.t 0), none⟩,
          ⟨some 12, .len false (.t 11), none⟩,
          ⟨some 13, .mv (.k (.c (.int .i64 0))), none⟩])
    (.block 0
      (.loop
        (.seq (.region
            [⟨some 14, .bin .lss (.t 13) (.t 12), none⟩])
        (.seq (.cond (.t 14)
            (.skip)
            (.exit 0))
        (.seq (.block 1
            (.seq (.region
                [⟨some 15, .mv (.t 13), none⟩,
                  ⟨some 5, .mv (.t 15), none⟩])
            (.seq (.draw
                [⟨some 16, .mv (.t 0), none⟩,
                  ⟨some 17, .mv (.t 5), none⟩,
                  ⟨some 18, .idxSlc 1 (.t 16) (.t 17), none⟩,
                  ⟨some 19, .load1 (.t 18), none⟩,
                  ⟨some 20, .bytesStr (.t 19), none⟩,
                  ⟨some 21, .mv (.t 1), none⟩,
                  ⟨some 22, .mv (.t 5), none⟩,
                  ⟨some 23, .idxSlc 1 (.t 21) (.t 22), none⟩,
                  ⟨some 24, .load1 (.t 23), none⟩]
                [⟨some 25, .bin .neq (.t 20) (.t 24), none⟩])
            (.cond (.t 25)
              (.seq (.region
                  [⟨some 4, .mv (.k (.c (.bool false))), none⟩])
              (.ret))
              (.skip)))))
        (.region
          [⟨some 26, .bin .add (.t 13) (.k (.c (.int .i64 1))), none⟩,
            ⟨some 13, .mv (.t 26), none⟩])))))))
  (.seq (.region
      [⟨some 4, .mv (.k (.c (.bool true))), none⟩])
  (.ret)))))
theorem t_pestlelaw04_same : A F_pestlelaw04_same = some c_pestlelaw04_same := by kernel_rfl
end PK
