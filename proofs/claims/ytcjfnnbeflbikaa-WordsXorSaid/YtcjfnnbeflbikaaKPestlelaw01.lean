/- Package pestlelaw01 as code of the abstract machine. -/
import Derived.Test.YtcjfnnbeflbikaaKF
namespace PK
open Go PAbs

noncomputable def c_pestlelaw01_WordsTurn : AFn := AFn.mk 41 [.tmp 6]
  (.seq (.region
      [⟨some 6, .mv (.k (.c (.bool false))), none⟩])
  (.seq (.seq (.region
        [⟨some 7, .call F_pestlelaw01_awake [], none⟩,
          ⟨some 8, .un .not (.t 7), none⟩])
    (.cond (.t 8)
      (.seq (.region
          [⟨some 6, .mv (.k (.c (.bool false))), none⟩])
      (.ret))
      (.skip)))
  (.seq (.seq (.region
        [⟨some 9, .mv (.t 0), none⟩,
          ⟨some 10, .mv (.t 2), none⟩,
          ⟨some 11, .call F_words_Left32 [.t 9, .t 10], none⟩,
          ⟨some 12, .mv (.t 0), none⟩,
          ⟨some 13, .mv (.t 2), none⟩,
          ⟨some 14, .call F_pestleref01_Left [.t 12, .t 13], none⟩,
          ⟨some 15, .bin .neq (.t 11) (.t 14), none⟩,
          ⟨some 16, .mv (.t 15), none⟩,
          ⟨some 17, .mv (.t 1), some (16, false)⟩,
          ⟨some 18, .mv (.t 2), some (16, false)⟩,
          ⟨some 19, .call F_words_Right64 [.t 17, .t 18], some (16, false)⟩,
          ⟨some 20, .mv (.t 1), some (16, false)⟩,
          ⟨some 21, .mv (.t 2), some (16, false)⟩,
          ⟨some 22, .call F_pestleref01_Right [.t 20, .t 21], some (16, false)⟩,
          ⟨some 23, .bin .neq (.t 19) (.t 22), some (16, false)⟩,
          ⟨some 24, .pick (.t 16) (.k (.c (.bool true))) (.t 23), none⟩])
    (.cond (.t 24)
      (.seq (.region
          [⟨some 6, .mv (.k (.c (.bool false))), none⟩])
      (.ret))
      (.skip)))
  (.seq (.region
      [⟨some 25, .mv (.t 0), none⟩,
        ⟨some 26, .mv (.t 2), none⟩,
        ⟨some 27, .call F_words_Left32 [.t 25, .t 26], none⟩,
        ⟨some 28, .mv (.t 2), none⟩,
        ⟨some 29, .call F_words_Right32 [.t 27, .t 28], none⟩,
        ⟨some 30, .mv (.t 0), none⟩,
        ⟨some 31, .bin .eql (.t 29) (.t 30), none⟩,
        ⟨some 32, .mv (.t 31), none⟩,
        ⟨some 33, .mv (.t 0), some (32, true)⟩,
        ⟨some 34, .mv (.t 2), some (32, true)⟩,
        ⟨some 35, .call F_words_Right32 [.t 33, .t 34], some (32, true)⟩,
        ⟨some 36, .mv (.t 2), some (32, true)⟩,
        ⟨some 37, .call F_words_Left32 [.t 35, .t 36], some (32, true)⟩,
        ⟨some 38, .mv (.t 0), some (32, true)⟩,
        ⟨some 39, .bin .eql (.t 37) (.t 38), some (32, true)⟩,
        ⟨some 40, .pick (.t 32) (.t 39) (.k (.c (.bool false))), none⟩,
        ⟨some 6, .mv (.t 40), none⟩])
  (.ret)))))
theorem t_pestlelaw01_WordsTurn : A F_pestlelaw01_WordsTurn = some c_pestlelaw01_WordsTurn := by kernel_rfl

noncomputable def c_pestlelaw01_WordsXor : AFn := AFn.mk 80 [.tmp 2]
  (.seq (.region
      [⟨some 2, .mv (.k (.c (.bool false))), none⟩])
  (.seq (.seq (.region
        [⟨some 11, .call F_pestlelaw01_awake [], none⟩,
          ⟨some 12, .un .not (.t 11), none⟩])
    (.cond (.t 12)
      (.seq (.region
          [⟨some 2, .mv (.k (.c (.bool false))), none⟩])
      (.ret))
      (.skip)))
  (.seq (.seq (.region
        [⟨some 13, .mv (.t 0), none⟩,
          ⟨some 14, .len false (.t 13), none⟩,
          ⟨some 15, .bin .gtr (.t 14) (.k (.c (.int .i64 20))), none⟩])
    (.cond (.t 15)
      (.seq (.region
          [⟨some 2, .mv (.k (.c (.bool true))), none⟩])
      (.ret))
      (.skip)))
  (.seq (.seq (.region
        [⟨some 16, .mv (.t 0), none⟩,
          ⟨some 17, .len false (.t 16), none⟩,
          ⟨some 18, .mv (.k (.c (.int .i64 0))), none⟩])
    (.block 0
      (.loop
        (.seq (.region
            [⟨some 19, .bin .lss (.t 18) (.t 17), none⟩])
        (.seq (.cond (.t 19)
            (.skip)
            (.exit 0))
        (.seq (.block 1
            (.seq (.region
                [⟨some 20, .idxSlc 1 (.t 16) (.t 18), none⟩,
                  ⟨some 21, .load1 (.t 20), none⟩,
                  ⟨some 4, .mv (.t 21), none⟩])
            (.seq (.region
                [⟨some 22, .mv (.t 4), none⟩,
                  ⟨some 23, .len true (.t 22), none⟩,
                  ⟨some 24, .bin .gtr (.t 23) (.k (.c (.int .i64 200))), none⟩])
            (.cond (.t 24)
              (.seq (.region
                  [⟨some 2, .mv (.k (.c (.bool true))), none⟩])
              (.ret))
              (.skip)))))
        (.region
          [⟨some 25, .bin .add (.t 18) (.k (.c (.int .i64 1))), none⟩,
            ⟨some 18, .mv (.t 25), none⟩])))))))
  (.seq (.region
      [⟨some 27, .mv (.t 0), none⟩,
        ⟨some 28, .call F_words_Xor [.t 27], none⟩,
        ⟨some 26, .mv (.t 28), none⟩,
        ⟨some 29, .extract (.t 26) 0, none⟩,
        ⟨some 30, .extract (.t 26) 1, none⟩,
        ⟨some 5, .mv (.t 29), none⟩,
        ⟨some 6, .mv (.t 30), none⟩])
  (.seq (.region
      [⟨some 32, .mv (.t 0), none⟩,
        ⟨some 33, .call F_pestleref01_Xor [.t 32], none⟩,
        ⟨some 31, .mv (.t 33), none⟩,
        ⟨some 34, .extract (.t 31) 0, none⟩,
        ⟨some 35, .extract (.t 31) 1, none⟩,
        ⟨some 7, .mv (.t 34), none⟩,
        ⟨some 8, .mv (.t 35), none⟩])
  (.seq (.seq (.region
        [⟨some 36, .mv (.t 6), none⟩,
          ⟨some 37, .bin .eql (.t 36) (.k (.c (.int .i64 0))), none⟩,
          ⟨some 38, .mv (.t 8), none⟩,
          ⟨some 39, .eq true .bool (.t 37) (.t 38), none⟩,
          ⟨some 40, .mv (.t 39), none⟩,
          ⟨some 41, .mv (.t 8), some (40, false)⟩,
          ⟨some 42, .un .not (.t 41), some (40, false)⟩,
          ⟨some 43, .mv (.t 42), some (40, false)⟩,
          ⟨some 44, .mv (.t 6), some (43, true)⟩,
          ⟨some 45, .bin .neq (.t 44) (.k (.c (.int .i64 9))), some (43, true)⟩,
          ⟨some 46, .pick (.t 43) (.t 45) (.k (.c (.bool false))), some (40, false)⟩,
          ⟨some 47, .pick (.t 40) (.k (.c (.bool true))) (.t 46), none⟩,
          ⟨some 48, .mv (.t 47), none⟩,
          ⟨some 49, .mv (.t 5), some (48, false)⟩,
          ⟨some 50, .mv (.t 7), some (48, false)⟩,
          ⟨some 51, .bin .neq (.t 49) (.t 50), some (48, false)⟩,
          ⟨some 52, .pick (.t 48) (.k (.c (.bool true))) (.t 51), none⟩])
    (.cond (.t 52)
      (.seq (.region
          [⟨some 2, .mv (.k (.c (.bool false))), none⟩])
      (.ret))
      (.skip)))
  (.seq (.seq (.region
        [⟨some 53, .mv (.t 0), none⟩,
          ⟨some 54, .len false (.t 53), none⟩,
          ⟨some 55, .bin .eql (.t 54) (.k (.c (.int .i64 0))), none⟩,
          ⟨some 56, .mv (.t 55), none⟩,
          ⟨some 57, .mv (.t 8), some (56, false)⟩,
          ⟨some 58, .un .not (.t 57), some (56, false)⟩,
          ⟨some 59, .pick (.t 56) (.k (.c (.bool true))) (.t 58), none⟩])
    (.cond (.t 59)
      (.seq (.region
          [⟨some 2, .mv (.k (.c (.bool true))), none⟩])
      (.ret))
      (.skip)))
  (.seq (.region
      [⟨some 61, .buildSlice ([]) 1 0 [], none⟩,
        ⟨some 62, .mv (.t 0), none⟩,
        ⟨some 63, .append ([.str []]) 16 (.t 61) (.t 62), none⟩,
        ⟨some 64, .mv (.t 5), none⟩,
        ⟨some 65, .buildSlice ([.str []]) 1 1 [(0, 1, .t 64)], none⟩,
        ⟨some 66, .append ([.str []]) 16 (.t 63) (.t 65), none⟩,
        ⟨some 67, .call F_words_Xor [.t 66], none⟩,
        ⟨some 60, .mv (.t 67), none⟩,
        ⟨some 68, .extract (.t 60) 0, none⟩,
        ⟨some 69, .extract (.t 60) 1, none⟩,
        ⟨some 9, .mv (.t 68), none⟩,
        ⟨some 10, .mv (.t 69), none⟩])
  (.seq (.region
      [⟨some 70, .mv (.t 10), none⟩,
        ⟨some 71, .bin .eql (.t 70) (.k (.c (.int .i64 0))), none⟩,
        ⟨some 72, .mv (.t 71), none⟩,
        ⟨some 73, .mv (.t 9), some (72, true)⟩,
        ⟨some 74, .mv (.t 5), some (72, true)⟩,
        ⟨some 75, .len true (.t 74), some (72, true)⟩,
        ⟨some 76, .makeSlice ([.int .u8 0]) 1 (.t 75) (.t 75), some (72, true)⟩,
        ⟨some 77, .bytesStr (.t 76), some (72, true)⟩,
        ⟨some 78, .bin .eql (.t 73) (.t 77), some (72, true)⟩,
        ⟨some 79, .pick (.t 72) (.t 78) (.k (.c (.bool false))), none⟩,
        ⟨some 2, .mv (.t 79), none⟩])
  (.ret)))))))))))
theorem t_pestlelaw01_WordsXor : A F_pestlelaw01_WordsXor = some c_pestlelaw01_WordsXor := by kernel_rfl

noncomputable def c_pestlelaw01_WordsTake : AFn := AFn.mk 161 [.tmp 2]
  (.seq (.region
      [⟨some 2, .mv (.k (.c (.bool false))), none⟩])
  (.seq (.seq (.region
        [⟨some 17, .call F_pestlelaw01_awake [], none⟩,
          ⟨some 18, .un .not (.t 17), none⟩])
    (.cond (.t 18)
      (.seq (.region
          [⟨some 2, .mv (.k (.c (.bool false))), none⟩])
      (.ret))
      (.skip)))
  (.seq (.seq (.region
        [⟨some 19, .mv (.t 0), none⟩,
          ⟨some 20, .len false (.t 19), none⟩,
          ⟨some 21, .bin .gtr (.t 20) (.k (.c (.int .i64 800))), none⟩])
    (.cond (.t 21)
      (.seq (.region
          [⟨some 2, .mv (.k (.c (.bool true))), none⟩])
      (.ret))
      (.skip)))
  (.seq (.region
      [⟨some 23, .mv (.t 0), none⟩,
        ⟨some 24, .call F_words_Take32 [.t 23], none⟩,
        ⟨some 22, .mv (.t 24), none⟩,
        ⟨some 25, .extract (.t 22) 0, none⟩,
        ⟨some 26, .extract (.t 22) 1, none⟩,
        ⟨some 3, .mv (.t 25), none⟩,
        ⟨some 4, .mv (.t 26), none⟩])
  (.seq (.region
      [⟨some 28, .mv (.t 0), none⟩,
        ⟨some 29, .call F_pestleref01_Words [.t 28, .k (.c (.int .i64 4))], none⟩,
        ⟨some 27, .mv (.t 29), none⟩,
        ⟨some 30, .extract (.t 27) 0, none⟩,
        ⟨some 31, .extract (.t 27) 1, none⟩,
        ⟨some 5, .mv (.t 30), none⟩,
        ⟨some 6, .mv (.t 31), none⟩])
  (.seq (.region
      [⟨some 33, .mv (.t 0), none⟩,
        ⟨some 34, .call F_words_TakeBig32 [.t 33], none⟩,
        ⟨some 32, .mv (.t 34), none⟩,
        ⟨some 35, .extract (.t 32) 0, none⟩,
        ⟨some 36, .extract (.t 32) 1, none⟩,
        ⟨some 7, .mv (.t 35), none⟩,
        ⟨some 8, .mv (.t 36), none⟩])
  (.seq (.region
      [⟨some 38, .mv (.t 0), none⟩,
        ⟨some 39, .call F_pestleref01_Swapped [.t 38, .k (.c (.int .i64 4))], none⟩,
        ⟨some 40, .call F_pestleref01_Words [.t 39, .k (.c (.int .i64 4))], none⟩,
        ⟨some 37, .mv (.t 40), none⟩,
        ⟨some 41, .extract (.t 37) 0, none⟩,
        ⟨some 42, .extract (.t 37) 1, none⟩,
        ⟨some 9, .mv (.t 41), none⟩,
        ⟨some 10, .mv (.t 42), none⟩])
  (.seq (.seq (.region
        [⟨some 43, .mv (.t 4), none⟩,
          ⟨some 44, .bin .eql (.t 43) (.k (.c (.int .i64 0))), none⟩,
          ⟨some 45, .mv (.t 6), none⟩,
          ⟨some 46, .eq true .bool (.t 44) (.t 45), none⟩,
          ⟨some 47, .mv (.t 46), none⟩,
          ⟨some 48, .mv (.t 8), some (47, false)⟩,
          ⟨some 49, .bin .eql (.t 48) (.k (.c (.int .i64 0))), some (47, false)⟩,
          ⟨some 50, .mv (.t 6), some (47, false)⟩,
          ⟨some 51, .eq true .bool (.t 49) (.t 50), some (47, false)⟩,
          ⟨some 52, .pick (.t 47) (.k (.c (.bool true))) (.t 51), none⟩,
          ⟨some 53, .mv (.t 52), none⟩,
          ⟨some 54, .mv (.t 6), some (53, false)⟩,
          ⟨some 55, .un .not (.t 54), some (53, false)⟩,
          ⟨some 56, .mv (.t 55), some (53, false)⟩,
          ⟨some 57, .mv (.t 4), some (56, true)⟩,
          ⟨some 58, .bin .neq (.t 57) (.k (.c (.int .i64 9))), some (56, true)⟩,
          ⟨some 59, .mv (.t 58), some (56, true)⟩,
          ⟨some 60, .mv (.t 8), some (59, false)⟩,
          ⟨some 61, .bin .neq (.t 60) (.k (.c (.int .i64 9))), some (59, false)⟩,
          ⟨some 62, .pick (.t 59) (.k (.c (.bool true))) (.t 61), some (56, true)⟩,
          ⟨some 63, .mv (.t 62), some (56, true)⟩,
          ⟨some 64, .mv (.t 3), some (63, false)⟩,
          ⟨some 65, .len false (.t 64), some (63, false)⟩,
          ⟨some 66, .bin .gtr (.t 65) (.k (.c (.int .i64 0))), some (63, false)⟩,
          ⟨some 67, .pick (.t 63) (.k (.c (.bool true))) (.t 66), some (56, true)⟩,
          ⟨some 68, .mv (.t 67), some (56, true)⟩,
          ⟨some 69, .mv (.t 7), some (68, false)⟩,
          ⟨some 70, .len false (.t 69), some (68, false)⟩,
          ⟨some 71, .bin .gtr (.t 70) (.k (.c (.int .i64 0))), some (68, false)⟩,
          ⟨some 72, .pick (.t 68) (.k (.c (.bool true))) (.t 71), some (56, true)⟩,
          ⟨some 73, .pick (.t 56) (.t 72) (.k (.c (.bool false))), some (53, false)⟩,
          ⟨some 74, .pick (.t 53) (.k (.c (.bool true))) (.t 73), none⟩])
    (.cond (.t 74)
      (.seq (.region
          [⟨some 2, .mv (.k (.c (.bool false))), none⟩])
      (.ret))
      (.skip)))
  (.seq (.seq (.region
        [⟨some 75, .mv (.t 5), none⟩,
          ⟨some 76, .len false (.t 75), none⟩,
          ⟨some 77, .mv (.k (.c (.int .i64 0))), none⟩])
    (.block 0
      (.loop
        (.seq (.region
            [⟨some 78, .bin .lss (.t 77) (.t 76), none⟩])
        (.seq (.cond (.t 78)
            (.skip)
            (.exit 0))
        (.seq (.block 1
            (.seq (.region
                [⟨some 79, .mv (.t 77), none⟩,
                  ⟨some 11, .mv (.t 79), none⟩])
            (.seq (.draw
                [⟨some 80, .mv (.t 3), none⟩,
                  ⟨some 81, .len false (.t 80), none⟩,
                  ⟨some 82, .mv (.t 5), none⟩,
                  ⟨some 83, .len false (.t 82), none⟩,
                  ⟨some 84, .bin .neq (.t 81) (.t 83), none⟩,
                  ⟨some 85, .mv (.t 84), none⟩,
                  ⟨some 86, .mv (.t 7), some (85, false)⟩,
                  ⟨some 87, .len false (.t 86), some (85, false)⟩,
                  ⟨some 88, .mv (.t 5), some (85, false)⟩,
                  ⟨some 89, .len false (.t 88), some (85, false)⟩,
                  ⟨some 90, .bin .neq (.t 87) (.t 89), some (85, false)⟩,
                  ⟨some 91, .pick (.t 85) (.k (.c (.bool true))) (.t 90), none⟩,
                  ⟨some 92, .mv (.t 91), none⟩,
                  ⟨some 93, .mv (.t 3), some (92, false)⟩,
                  ⟨some 94, .mv (.t 11), some (92, false)⟩,
                  ⟨some 95, .idxSlc 1 (.t 93) (.t 94), some (92, false)⟩,
                  ⟨some 96, .load1 (.t 95), some (92, false)⟩,
                  ⟨some 97, .convInt .u64 (.t 96), some (92, false)⟩,
                  ⟨some 98, .mv (.t 5), some (92, false)⟩,
                  ⟨some 99, .mv (.t 11), some (92, false)⟩,
                  ⟨some 100, .idxSlc 1 (.t 98) (.t 99), some (92, false)⟩,
                  ⟨some 101, .load1 (.t 100), some (92, false)⟩,
                  ⟨some 102, .bin .neq (.t 97) (.t 101), some (92, false)⟩,
                  ⟨some 103, .pick (.t 92) (.k (.c (.bool true))) (.t 102), none⟩,
                  ⟨some 104, .mv (.t 103), none⟩,
                  ⟨some 105, .mv (.t 7), some (104, false)⟩,
                  ⟨some 106, .mv (.t 11), some (104, false)⟩,
                  ⟨some 107, .idxSlc 1 (.t 105) (.t 106), some (104, false)⟩,
                  ⟨some 108, .load1 (.t 107), some (104, false)⟩,
                  ⟨some 109, .convInt .u64 (.t 108), some (104, false)⟩,
                  ⟨some 110, .mv (.t 9), some (104, false)⟩,
                  ⟨some 111, .mv (.t 11), some (104, false)⟩,
                  ⟨some 112, .idxSlc 1 (.t 110) (.t 111), some (104, false)⟩,
                  ⟨some 113, .load1 (.t 112), some (104, false)⟩]
                [⟨some 114, .bin .neq (.t 109) (.t 113), some (104, false)⟩,
                  ⟨some 115, .pick (.t 104) (.k (.c (.bool true))) (.t 114), none⟩])
            (.cond (.t 115)
              (.seq (.region
                  [⟨some 2, .mv (.k (.c (.bool false))), none⟩])
              (.ret))
              (.skip)))))
        (.region
          [⟨some 116, .bin .add (.t 77) (.k (.c (.int .i64 1))), none⟩,
            ⟨some 77, .mv (.t 116), none⟩])))))))
  (.seq (.region
      [⟨some 118, .mv (.t 0), none⟩,
        ⟨some 119, .call F_words_Take64 [.t 118], none⟩,
        ⟨some 117, .mv (.t 119), none⟩,
        ⟨some 120, .extract (.t 117) 0, none⟩,
        ⟨some 121, .extract (.t 117) 1, none⟩,
        ⟨some 12, .mv (.t 120), none⟩,
        ⟨some 13, .mv (.t 121), none⟩])
  (.seq (.region
      [⟨some 123, .mv (.t 0), none⟩,
        ⟨some 124, .call F_pestleref01_Words [.t 123, .k (.c (.int .i64 8))], none⟩,
        ⟨some 122, .mv (.t 124), none⟩,
        ⟨some 125, .extract (.t 122) 0, none⟩,
        ⟨some 126, .extract (.t 122) 1, none⟩,
        ⟨some 14, .mv (.t 125), none⟩,
        ⟨some 15, .mv (.t 126), none⟩])
  (.seq (.seq (.region
        [⟨some 127, .mv (.t 13), none⟩,
          ⟨some 128, .bin .eql (.t 127) (.k (.c (.int .i64 0))), none⟩,
          ⟨some 129, .mv (.t 15), none⟩,
          ⟨some 130, .eq true .bool (.t 128) (.t 129), none⟩,
          ⟨some 131, .mv (.t 130), none⟩,
          ⟨some 132, .mv (.t 15), some (131, false)⟩,
          ⟨some 133, .un .not (.t 132), some (131, false)⟩,
          ⟨some 134, .mv (.t 133), some (131, false)⟩,
          ⟨some 135, .mv (.t 13), some (134, true)⟩,
          ⟨some 136, .bin .neq (.t 135) (.k (.c (.int .i64 9))), some (134, true)⟩,
          ⟨some 137, .pick (.t 134) (.t 136) (.k (.c (.bool false))), some (131, false)⟩,
          ⟨some 138, .pick (.t 131) (.k (.c (.bool true))) (.t 137), none⟩,
          ⟨some 139, .mv (.t 138), none⟩,
          ⟨some 140, .mv (.t 12), some (139, false)⟩,
          ⟨some 141, .len false (.t 140), some (139, false)⟩,
          ⟨some 142, .mv (.t 14), some (139, false)⟩,
          ⟨some 143, .len false (.t 142), some (139, false)⟩,
          ⟨some 144, .bin .neq (.t 141) (.t 143), some (139, false)⟩,
          ⟨some 145, .pick (.t 139) (.k (.c (.bool true))) (.t 144), none⟩])
    (.cond (.t 145)
      (.seq (.region
          [⟨some 2, .mv (.k (.c (.bool false))), none⟩])
      (.ret))
      (.skip)))
  (.seq (.seq (.region
        [⟨some 146, .mv (.t 14), none⟩,
          ⟨some 147, .len false (.t 146), none⟩,
          ⟨some 148, .mv (.k (.c (.int .i64 0))), none⟩])
    (.block 2
      (.loop
        (.seq (.region
            [⟨some 149, .bin .lss (.t 148) (.t 147), none⟩])
        (.seq (.cond (.t 149)
            (.skip)
            (.exit 2))
        (.seq (.block 3
            (.seq (.region
                [⟨some 150, .mv (.t 148), none⟩,
                  ⟨some 16, .mv (.t 150), none⟩])
            (.seq (.draw
                [⟨some 151, .mv (.t 12), none⟩,
                  ⟨some 152, .mv (.t 16), none⟩,
                  ⟨some 153, .idxSlc 1 (.t 151) (.t 152), none⟩,
                  ⟨some 154, .load1 (.t 153), none⟩,
                  ⟨some 155, .mv (.t 14), none⟩,
                  ⟨some 156, .mv (.t 16), none⟩,
                  ⟨some 157, .idxSlc 1 (.t 155) (.t 156), none⟩,
                  ⟨some 158, .load1 (.t 157), none⟩]
                [⟨some 159, .bin .neq (.t 154) (.t 158), none⟩])
            (.cond (.t 159)
              (.seq (.region
                  [⟨some 2, .mv (.k (.c (.bool false))), none⟩])
              (.ret))
              (.skip)))))
        (.region
          [⟨some 160, .bin .add (.t 148) (.k (.c (.int .i64 1))), none⟩,
            ⟨some 148, .mv (.t 160), none⟩])))))))
  (.seq (.region
      [⟨some 2, .mv (.k (.c (.bool true))), none⟩])
  (.ret)))))))))))))))
theorem t_pestlelaw01_WordsTake : A F_pestlelaw01_WordsTake = some c_pestlelaw01_WordsTake := by kernel_rfl

noncomputable def c_pestlelaw01_WordsWrite : AFn := AFn.mk 85 [.tmp 4]
  (.seq (.region
      [⟨some 4, .mv (.k (.c (.bool false))), none⟩])
  (.seq (.seq (.region
        [⟨some 13, .call F_pestlelaw01_awake [], none⟩,
          ⟨some 14, .un .not (.t 13), none⟩])
    (.cond (.t 14)
      (.seq (.region
          [⟨some 4, .mv (.k (.c (.bool false))), none⟩])
      (.ret))
      (.skip)))
  (.seq (.seq (.region
        [⟨some 15, .mv (.t 0), none⟩,
          ⟨some 16, .len false (.t 15), none⟩,
          ⟨some 17, .bin .gtr (.t 16) (.k (.c (.int .i64 200))), none⟩,
          ⟨some 18, .mv (.t 17), none⟩,
          ⟨some 19, .mv (.t 1), some (18, false)⟩,
          ⟨some 20, .len false (.t 19), some (18, false)⟩,
          ⟨some 21, .bin .gtr (.t 20) (.k (.c (.int .i64 200))), some (18, false)⟩,
          ⟨some 22, .pick (.t 18) (.k (.c (.bool true))) (.t 21), none⟩])
    (.cond (.t 22)
      (.seq (.region
          [⟨some 4, .mv (.k (.c (.bool true))), none⟩])
      (.ret))
      (.skip)))
  (.seq (.region
      [⟨some 5, .mv (.k (.c (.snil))), none⟩,
        ⟨some 6, .mv (.k (.c (.snil))), none⟩,
        ⟨some 7, .mv (.k (.c (.snil))), none⟩,
        ⟨some 8, .mv (.k (.c (.snil))), none⟩])
  (.seq (.seq (.region
        [⟨some 23, .mv (.t 0), none⟩,
          ⟨some 24, .len false (.t 23), none⟩,
          ⟨some 25, .mv (.k (.c (.int .i64 0))), none⟩])
    (.block 0
      (.loop
        (.seq (.region
            [⟨some 26, .bin .lss (.t 25) (.t 24), none⟩])
        (.seq (.cond (.t 26)
            (.skip)
            (.exit 0))
        (.seq (.block 1
            (.seq (.region
                [⟨some 27, .idxSlc 1 (.t 23) (.t 25), none⟩,
                  ⟨some 28, .load1 (.t 27), none⟩,
                  ⟨some 10, .mv (.t 28), none⟩])
            (.seq (.region
                [⟨some 29, .mv (.t 5), none⟩,
                  ⟨some 30, .mv (.t 10), none⟩,
                  ⟨some 31, .call F_pestleref01_Of32 [.t 30], none⟩,
                  ⟨some 32, .append ([.int .u8 0]) 1 (.t 29) (.t 31), none⟩,
                  ⟨some 5, .mv (.t 32), none⟩])
            (.region
              [⟨some 33, .mv (.t 6), none⟩,
                ⟨some 34, .mv (.t 10), none⟩,
                ⟨some 35, .call F_pestleref01_Of32 [.t 34], none⟩,
                ⟨some 36, .call F_pestleref01_Turned [.t 35], none⟩,
                ⟨some 37, .append ([.int .u8 0]) 1 (.t 33) (.t 36), none⟩,
                ⟨some 6, .mv (.t 37), none⟩]))))
        (.region
          [⟨some 38, .bin .add (.t 25) (.k (.c (.int .i64 1))), none⟩,
            ⟨some 25, .mv (.t 38), none⟩])))))))
  (.seq (.seq (.region
        [⟨some 39, .mv (.t 1), none⟩,
          ⟨some 40, .len false (.t 39), none⟩,
          ⟨some 41, .mv (.k (.c (.int .i64 0))), none⟩])
    (.block 2
      (.loop
        (.seq (.region
            [⟨some 42, .bin .lss (.t 41) (.t 40), none⟩])
        (.seq (.cond (.t 42)
            (.skip)
            (.exit 2))
        (.seq (.block 3
            (.seq (.region
                [⟨some 43, .idxSlc 1 (.t 39) (.t 41), none⟩,
                  ⟨some 44, .load1 (.t 43), none⟩,
                  ⟨some 12, .mv (.t 44), none⟩])
            (.seq (.region
                [⟨some 45, .mv (.t 7), none⟩,
                  ⟨some 46, .mv (.t 12), none⟩,
                  ⟨some 47, .call F_pestleref01_Of64 [.t 46], none⟩,
                  ⟨some 48, .append ([.int .u8 0]) 1 (.t 45) (.t 47), none⟩,
                  ⟨some 7, .mv (.t 48), none⟩])
            (.region
              [⟨some 49, .mv (.t 8), none⟩,
                ⟨some 50, .mv (.t 12), none⟩,
                ⟨some 51, .call F_pestleref01_Of64 [.t 50], none⟩,
                ⟨some 52, .call F_pestleref01_Turned [.t 51], none⟩,
                ⟨some 53, .append ([.int .u8 0]) 1 (.t 49) (.t 52), none⟩,
                ⟨some 8, .mv (.t 53), none⟩]))))
        (.region
          [⟨some 54, .bin .add (.t 41) (.k (.c (.int .i64 1))), none⟩,
            ⟨some 41, .mv (.t 54), none⟩])))))))
  (.seq (.draw
      [⟨some 55, .mv (.t 0), none⟩,
        ⟨some 56, .call F_words_Little32 [.t 55], none⟩,
        ⟨some 57, .bytesStr (.t 56), none⟩,
        ⟨some 58, .mv (.t 5), none⟩,
        ⟨some 59, .bytesStr (.t 58), none⟩,
        ⟨some 60, .bin .eql (.t 57) (.t 59), none⟩,
        ⟨some 61, .mv (.t 60), none⟩,
        ⟨some 62, .mv (.t 0), some (61, true)⟩,
        ⟨some 63, .call F_words_Big32 [.t 62], some (61, true)⟩,
        ⟨some 64, .bytesStr (.t 63), some (61, true)⟩,
        ⟨some 65, .mv (.t 6), some (61, true)⟩,
        ⟨some 66, .bytesStr (.t 65), some (61, true)⟩,
        ⟨some 67, .bin .eql (.t 64) (.t 66), some (61, true)⟩,
        ⟨some 68, .pick (.t 61) (.t 67) (.k (.c (.bool false))), none⟩,
        ⟨some 69, .mv (.t 68), none⟩,
        ⟨some 70, .mv (.t 1), some (69, true)⟩,
        ⟨some 71, .call F_words_Little64 [.t 70], some (69, true)⟩,
        ⟨some 72, .bytesStr (.t 71), some (69, true)⟩,
        ⟨some 73, .mv (.t 7), some (69, true)⟩,
        ⟨some 74, .bytesStr (.t 73), some (69, true)⟩,
        ⟨some 75, .bin .eql (.t 72) (.t 74), some (69, true)⟩,
        ⟨some 76, .pick (.t 69) (.t 75) (.k (.c (.bool false))), none⟩,
        ⟨some 77, .mv (.t 76), none⟩,
        ⟨some 78, .mv (.t 1), some (77, true)⟩,
        ⟨some 79, .call F_words_Big64 [.t 78], some (77, true)⟩,
        ⟨some 80, .bytesStr (.t 79), some (77, true)⟩,
        ⟨some 81, .mv (.t 8), some (77, true)⟩,
        ⟨some 82, .bytesStr (.t 81), some (77, true)⟩]
      [⟨some 83, .bin .eql (.t 80) (.t 82), some (77, true)⟩,
        ⟨some 84, .pick (.t 77) (.t 83) (.k (.c (.bool false))), none⟩,
        ⟨some 4, .mv (.t 84), none⟩])
  (.ret))))))))
theorem t_pestlelaw01_WordsWrite : A F_pestlelaw01_WordsWrite = some c_pestlelaw01_WordsWrite := by kernel_rfl

noncomputable def c_pestlelaw01_WordsBack : AFn := AFn.mk 113 [.tmp 4]
  (.seq (.region
      [⟨some 4, .mv (.k (.c (.bool false))), none⟩])
  (.seq (.seq (.region
        [⟨some 13, .call F_pestlelaw01_awake [], none⟩,
          ⟨some 14, .un .not (.t 13), none⟩])
    (.cond (.t 14)
      (.seq (.region
          [⟨some 4, .mv (.k (.c (.bool false))), none⟩])
      (.ret))
      (.skip)))
  (.seq (.seq (.region
        [⟨some 15, .mv (.t 0), none⟩,
          ⟨some 16, .len false (.t 15), none⟩,
          ⟨some 17, .bin .gtr (.t 16) (.k (.c (.int .i64 200))), none⟩,
          ⟨some 18, .mv (.t 17), none⟩,
          ⟨some 19, .mv (.t 1), some (18, false)⟩,
          ⟨some 20, .len false (.t 19), some (18, false)⟩,
          ⟨some 21, .bin .gtr (.t 20) (.k (.c (.int .i64 200))), some (18, false)⟩,
          ⟨some 22, .pick (.t 18) (.k (.c (.bool true))) (.t 21), none⟩])
    (.cond (.t 22)
      (.seq (.region
          [⟨some 4, .mv (.k (.c (.bool true))), none⟩])
      (.ret))
      (.skip)))
  (.seq (.region
      [⟨some 24, .mv (.t 0), none⟩,
        ⟨some 25, .call F_words_Little32 [.t 24], none⟩,
        ⟨some 26, .call F_words_Take32 [.t 25], none⟩,
        ⟨some 23, .mv (.t 26), none⟩,
        ⟨some 27, .extract (.t 23) 0, none⟩,
        ⟨some 28, .extract (.t 23) 1, none⟩,
        ⟨some 5, .mv (.t 27), none⟩,
        ⟨some 6, .mv (.t 28), none⟩])
  (.seq (.region
      [⟨some 30, .mv (.t 0), none⟩,
        ⟨some 31, .call F_words_Big32 [.t 30], none⟩,
        ⟨some 32, .call F_words_TakeBig32 [.t 31], none⟩,
        ⟨some 29, .mv (.t 32), none⟩,
        ⟨some 33, .extract (.t 29) 0, none⟩,
        ⟨some 34, .extract (.t 29) 1, none⟩,
        ⟨some 7, .mv (.t 33), none⟩,
        ⟨some 8, .mv (.t 34), none⟩])
  (.seq (.region
      [⟨some 36, .mv (.t 1), none⟩,
        ⟨some 37, .call F_words_Little64 [.t 36], none⟩,
        ⟨some 38, .call F_words_Take64 [.t 37], none⟩,
        ⟨some 35, .mv (.t 38), none⟩,
        ⟨some 39, .extract (.t 35) 0, none⟩,
        ⟨some 40, .extract (.t 35) 1, none⟩,
        ⟨some 9, .mv (.t 39), none⟩,
        ⟨some 10, .mv (.t 40), none⟩])
  (.seq (.seq (.region
        [⟨some 41, .mv (.t 6), none⟩,
          ⟨some 42, .bin .neq (.t 41) (.k (.c (.int .i64 0))), none⟩,
          ⟨some 43, .mv (.t 42), none⟩,
          ⟨some 44, .mv (.t 8), some (43, false)⟩,
          ⟨some 45, .bin .neq (.t 44) (.k (.c (.int .i64 0))), some (43, false)⟩,
          ⟨some 46, .pick (.t 43) (.k (.c (.bool true))) (.t 45), none⟩,
          ⟨some 47, .mv (.t 46), none⟩,
          ⟨some 48, .mv (.t 10), some (47, false)⟩,
          ⟨some 49, .bin .neq (.t 48) (.k (.c (.int .i64 0))), some (47, false)⟩,
          ⟨some 50, .pick (.t 47) (.k (.c (.bool true))) (.t 49), none⟩,
          ⟨some 51, .mv (.t 50), none⟩,
          ⟨some 52, .mv (.t 5), some (51, false)⟩,
          ⟨some 53, .len false (.t 52), some (51, false)⟩,
          ⟨some 54, .mv (.t 0), some (51, false)⟩,
          ⟨some 55, .len false (.t 54), some (51, false)⟩,
          ⟨some 56, .bin .neq (.t 53) (.t 55), some (51, false)⟩,
          ⟨some 57, .pick (.t 51) (.k (.c (.bool true))) (.t 56), none⟩,
          ⟨some 58, .mv (.t 57), none⟩,
          ⟨some 59, .mv (.t 7), some (58, false)⟩,
          ⟨some 60, .len false (.t 59), some (58, false)⟩,
          ⟨some 61, .mv (.t 0), some (58, false)⟩,
          ⟨some 62, .len false (.t 61), some (58, false)⟩,
          ⟨some 63, .bin .neq (.t 60) (.t 62), some (58, false)⟩,
          ⟨some 64, .pick (.t 58) (.k (.c (.bool true))) (.t 63), none⟩,
          ⟨some 65, .mv (.t 64), none⟩,
          ⟨some 66, .mv (.t 9), some (65, false)⟩,
          ⟨some 67, .len false (.t 66), some (65, false)⟩,
          ⟨some 68, .mv (.t 1), some (65, false)⟩,
          ⟨some 69, .len false (.t 68), some (65, false)⟩,
          ⟨some 70, .bin .neq (.t 67) (.t 69), some (65, false)⟩,
          ⟨some 71, .pick (.t 65) (.k (.c (.bool true))) (.t 70), none⟩])
    (.cond (.t 71)
      (.seq (.region
          [⟨some 4, .mv (.k (.c (.bool false))), none⟩])
      (.ret))
      (.skip)))
  (.seq (.seq (.region
        [⟨some 72, .mv (.t 0), none⟩,
          ⟨some 73, .len false (.t 72), none⟩,
          ⟨some 74, .mv (.k (.c (.int .i64 0))), none⟩])
    (.block 0
      (.loop
        (.seq (.region
            [⟨some 75, .bin .lss (.t 74) (.t 73), none⟩])
        (.seq (.cond (.t 75)
            (.skip)
            (.exit 0))
        (.seq (.block 1
            (.seq (.region
                [⟨some 76, .mv (.t 74), none⟩,
                  ⟨some 11, .mv (.t 76), none⟩])
            (.seq (.draw
                [⟨some 77, .mv (.t 5), none⟩,
                  ⟨some 78, .mv (.t 11), none⟩,
                  ⟨some 79, .idxSlc 1 (.t 77) (.t 78), none⟩,
                  ⟨some 80, .load1 (.t 79), none⟩,
                  ⟨some 81, .mv (.t 0), none⟩,
                  ⟨some 82, .mv (.t 11), none⟩,
                  ⟨some 83, .idxSlc 1 (.t 81) (.t 82), none⟩,
                  ⟨some 84, .load1 (.t 83), none⟩,
                  ⟨some 85, .bin .neq (.t 80) (.t 84), none⟩,
                  ⟨some 86, .mv (.t 85), none⟩,
                  ⟨some 87, .mv (.t 7), some (86, false)⟩,
                  ⟨some 88, .mv (.t 11), some (86, false)⟩,
                  ⟨some 89, .idxSlc 1 (.t 87) (.t 88), some (86, false)⟩,
                  ⟨some 90, .load1 (.t 89), some (86, false)⟩,
                  ⟨some 91, .mv (.t 0), some (86, false)⟩,
                  ⟨some 92, .mv (.t 11), some (86, false)⟩,
                  ⟨some 93, .idxSlc 1 (.t 91) (.t 92), some (86, false)⟩,
                  ⟨some 94, .load1 (.t 93), some (86, false)⟩]
                [⟨some 95, .bin .neq (.t 90) (.t 94), some (86, false)⟩,
                  ⟨some 96, .pick (.t 86) (.k (.c (.bool true))) (.t 95), none⟩])
            (.cond (.t 96)
              (.seq (.region
                  [⟨some 4, .mv (.k (.c (.bool false))), none⟩])
              (.ret))
              (.skip)))))
        (.region
          [⟨some 97, .bin .add (.t 74) (.k (.c (.int .i64 1))), none⟩,
            ⟨some 74, .mv (.t 97), none⟩])))))))
  (.seq (.seq (.region
        [⟨some 98, .mv (.t 1), none⟩,
          ⟨some 99, .len false (.t 98), none⟩,
          ⟨some 100, .mv (.k (.c (.int .i64 0))), none⟩])
    (.block 2
      (.loop
        (.seq (.region
            [⟨some 101, .bin .lss (.t 100) (.t 99), none⟩])
        (.seq (.cond (.t 101)
            (.skip)
            (.exit 2))
        (.seq (.block 3
            (.seq (.region
                [⟨some 102, .mv (.t 100), none⟩,
                  ⟨some 12, .mv (.t 102), none⟩])
            (.seq (.draw
                [⟨some 103, .mv (.t 9), none⟩,
                  ⟨some 104, .mv (.t 12), none⟩,
                  ⟨some 105, .idxSlc 1 (.t 103) (.t 104), none⟩,
                  ⟨some 106, .load1 (.t 105), none⟩,
                  ⟨some 107, .mv (.t 1), none⟩,
                  ⟨some 108, .mv (.t 12), none⟩,
                  ⟨some 109, .idxSlc 1 (.t 107) (.t 108), none⟩,
                  ⟨some 110, .load1 (.t 109), none⟩]
                [⟨some 111, .bin .neq (.t 106) (.t 110), none⟩])
            (.cond (.t 111)
              (.seq (.region
                  [⟨some 4, .mv (.k (.c (.bool false))), none⟩])
              (.ret))
              (.skip)))))
        (.region
          [⟨some 112, .bin .add (.t 100) (.k (.c (.int .i64 1))), none⟩,
            ⟨some 100, .mv (.t 112), none⟩])))))))
  (.seq (.region
      [⟨some 4, .mv (.k (.c (.bool true))), none⟩])
  (.ret)))))))))))
theorem t_pestlelaw01_WordsBack : A F_pestlelaw01_WordsBack = some c_pestlelaw01_WordsBack := by kernel_rfl

noncomputable def c_pestlelaw01_awake : AFn := AFn.mk 27 [.tmp 0]
  (.seq (.region
      [⟨some 0, .mv (.k (.c (.bool false))), none⟩])
  (.seq (.region
      [⟨some 2, .buildSlice ([.int .u32 0, .int .u32 0]) 1 2 [(0, 1, .k (.c (.int .u32 1))), (1, 1, .k (.c (.int .u32 16909060)))], none⟩,
        ⟨some 3, .call F_words_Little32 [.t 2], none⟩,
        ⟨some 1, .mv (.t 3), none⟩])
  (.seq (.region
      [⟨some 4, .mv (.t 1), none⟩,
        ⟨some 5, .len false (.t 4), none⟩,
        ⟨some 6, .bin .eql (.t 5) (.k (.c (.int .i64 8))), none⟩,
        ⟨some 7, .mv (.t 6), none⟩,
        ⟨some 8, .mv (.t 1), some (7, true)⟩,
        ⟨some 9, .idxSlc 1 (.t 8) (.k (.c (.int .i64 0))), some (7, true)⟩,
        ⟨some 10, .load1 (.t 9), some (7, true)⟩,
        ⟨some 11, .bin .eql (.t 10) (.k (.c (.int .u8 1))), some (7, true)⟩,
        ⟨some 12, .pick (.t 7) (.t 11) (.k (.c (.bool false))), none⟩,
        ⟨some 13, .mv (.t 12), none⟩,
        ⟨some 14, .mv (.t 1), some (13, true)⟩,
        ⟨some 15, .idxSlc 1 (.t 14) (.k (.c (.int .i64 4))), some (13, true)⟩,
        ⟨some 16, .load1 (.t 15), some (13, true)⟩,
        ⟨some 17, .bin .eql (.t 16) (.k (.c (.int .u8 4))), some (13, true)⟩,
        ⟨some 18, .pick (.t 13) (.t 17) (.k (.c (.bool false))), none⟩,
        ⟨some 19, .mv (.t 18), none⟩,
        ⟨some 20, .call F_words_Left32 [.k (.c (.int .u32 2147483649)), .k (.c (.int .i64 1))], some (19, true)⟩,
        ⟨some 21, .bin .eql (.t 20) (.k (.c (.int .u32 3))), some (19, true)⟩,
        ⟨some 22, .pick (.t 19) (.t 21) (.k (.c (.bool false))), none⟩,
        ⟨some 23, .mv (.t 22), none⟩,
        ⟨some 24, .call F_words_Right32 [.k (.c (.int .u32 3)), .k (.c (.int .i64 1))], some (23, true)⟩,
        ⟨some 25, .bin .eql (.t 24) (.k (.c (.int .u32 2147483649))), some (23, true)⟩,
        ⟨some 26, .pick (.t 23) (.t 25) (.k (.c (.bool false))), none⟩,
        ⟨some 0, .mv (.t 26), none⟩])
  (.ret))))
theorem t_pestlelaw01_awake : A F_pestlelaw01_awake = some c_pestlelaw01_awake := by kernel_rfl
end PK
