/- Package pestlelaw13 as code of the abstract machine. -/
import Derived.Test.YtcjfnnbeflbikaaKF
namespace PK
open Go PAbs

noncomputable def c_pestlelaw13_EqualTells : AFn := AFn.mk 60 [.tmp 4]
  (.seq (.region
      [⟨some 4, .mv (.k (.c (.bool false))), none⟩])
  (.seq (.seq (.region
        [⟨some 8, .call F_pestlelaw13_awake [], none⟩,
          ⟨some 9, .un .not (.t 8), none⟩])
    (.cond (.t 9)
      (.seq (.region
          [⟨some 4, .mv (.k (.c (.bool false))), none⟩])
      (.ret))
      (.skip)))
  (.seq (.region
      [⟨some 11, .mv (.t 0), none⟩,
        ⟨some 12, .mv (.t 1), none⟩,
        ⟨some 13, .call F_equal_Trace [.t 11, .t 12], none⟩,
        ⟨some 10, .mv (.t 13), none⟩,
        ⟨some 14, .extract (.t 10) 0, none⟩,
        ⟨some 15, .extract (.t 10) 1, none⟩,
        ⟨some 5, .mv (.t 14), none⟩,
        ⟨some 6, .mv (.t 15), none⟩])
  (.seq (.seq (.region
        [⟨some 16, .mv (.t 5), none⟩,
          ⟨some 17, .mv (.t 0), none⟩,
          ⟨some 18, .mv (.t 1), none⟩,
          ⟨some 19, .call F_pestleref13_Same [.t 17, .t 18], none⟩,
          ⟨some 20, .eq true .bool (.t 16) (.t 19), none⟩,
          ⟨some 21, .mv (.t 20), none⟩,
          ⟨some 22, .mv (.t 0), some (21, false)⟩,
          ⟨some 23, .mv (.t 1), some (21, false)⟩,
          ⟨some 24, .call F_equal_Same [.t 22, .t 23], some (21, false)⟩,
          ⟨some 25, .mv (.t 5), some (21, false)⟩,
          ⟨some 26, .eq true .bool (.t 24) (.t 25), some (21, false)⟩,
          ⟨some 27, .pick (.t 21) (.k (.c (.bool true))) (.t 26), none⟩,
          ⟨some 28, .mv (.t 27), none⟩,
          ⟨some 29, .mv (.t 0), some (28, false)⟩,
          ⟨some 30, .mv (.t 0), some (28, false)⟩,
          ⟨some 31, .call F_equal_Same [.t 29, .t 30], some (28, false)⟩,
          ⟨some 32, .un .not (.t 31), some (28, false)⟩,
          ⟨some 33, .pick (.t 28) (.k (.c (.bool true))) (.t 32), none⟩])
    (.cond (.t 33)
      (.seq (.region
          [⟨some 4, .mv (.k (.c (.bool false))), none⟩])
      (.ret))
      (.skip)))
  (.seq (.seq (.region
        [⟨some 34, .mv (.t 0), none⟩,
          ⟨some 35, .len true (.t 34), none⟩,
          ⟨some 36, .mv (.t 1), none⟩,
          ⟨some 37, .len true (.t 36), none⟩,
          ⟨some 38, .bin .neq (.t 35) (.t 37), none⟩])
    (.cond (.t 38)
      (.seq (.region
          [⟨some 39, .mv (.t 6), none⟩,
            ⟨some 40, .len false (.t 39), none⟩,
            ⟨some 41, .bin .eql (.t 40) (.k (.c (.int .i64 0))), none⟩,
            ⟨some 4, .mv (.t 41), none⟩])
      (.ret))
      (.skip)))
  (.seq (.seq (.region
        [⟨some 42, .mv (.t 6), none⟩,
          ⟨some 43, .len false (.t 42), none⟩,
          ⟨some 44, .mv (.t 0), none⟩,
          ⟨some 45, .len true (.t 44), none⟩,
          ⟨some 46, .bin .neq (.t 43) (.t 45), none⟩])
    (.cond (.t 46)
      (.seq (.region
          [⟨some 4, .mv (.k (.c (.bool false))), none⟩])
      (.ret))
      (.skip)))
  (.seq (.seq (.region
        [⟨some 47, .mv (.t 6), none⟩,
          ⟨some 48, .len false (.t 47), none⟩,
          ⟨some 49, .mv (.k (.c (.int .i64 0))), none⟩])
    (.block 0
      (.loop
        (.seq (.region
            [⟨some 50, .bin .lss (.t 49) (.t 48), none⟩])
        (.seq (.cond (.t 50)
            (.skip)
            (.exit 0))
        (.seq (.block 1
            (.seq (.region
                [⟨some 51, .mv (.t 49), none⟩,
                  ⟨some 7, .mv (.t 51), none⟩])
            (.seq (.region
                [⟨some 52, .mv (.t 6), none⟩,
                  ⟨some 53, .mv (.t 7), none⟩,
                  ⟨some 54, .idxSlc 1 (.t 52) (.t 53), none⟩,
                  ⟨some 55, .loadN 1 (.t 54), none⟩,
                  ⟨some 56, .mv (.t 7), none⟩,
                  ⟨some 57, .build ([.int .i64 0]) [(0, 1, .t 56)], none⟩,
                  ⟨some 58, .eq true (.agg ([.int .i64])) (.t 55) (.t 57), none⟩])
            (.cond (.t 58)
              (.seq (.region
                  [⟨some 4, .mv (.k (.c (.bool false))), none⟩])
              (.ret))
              (.skip)))))
        (.region
          [⟨some 59, .bin .add (.t 49) (.k (.c (.int .i64 1))), none⟩,
            ⟨some 49, .mv (.t 59), none⟩])))))))
  (.seq (.region
      [⟨some 4, .mv (.k (.c (.bool true))), none⟩])
  (.ret)))))))))
theorem t_pestlelaw13_EqualTells : A F_pestlelaw13_EqualTells = some c_pestlelaw13_EqualTells := by kernel_rfl

noncomputable def c_pestlelaw13_EqualBlind : AFn := AFn.mk 60 [.tmp 8]
  (.seq (.region
      [⟨some 8, .mv (.k (.c (.bool false))), none⟩])
  (.seq (.seq (.region
        [⟨some 14, .call F_pestlelaw13_awake [], none⟩,
          ⟨some 15, .un .not (.t 14), none⟩])
    (.cond (.t 15)
      (.seq (.region
          [⟨some 8, .mv (.k (.c (.bool false))), none⟩])
      (.ret))
      (.skip)))
  (.seq (.seq (.region
        [⟨some 16, .mv (.t 0), none⟩,
          ⟨some 17, .len true (.t 16), none⟩,
          ⟨some 18, .mv (.t 2), none⟩,
          ⟨some 19, .len true (.t 18), none⟩,
          ⟨some 20, .bin .neq (.t 17) (.t 19), none⟩,
          ⟨some 21, .mv (.t 20), none⟩,
          ⟨some 22, .mv (.t 1), some (21, false)⟩,
          ⟨some 23, .len true (.t 22), some (21, false)⟩,
          ⟨some 24, .mv (.t 3), some (21, false)⟩,
          ⟨some 25, .len true (.t 24), some (21, false)⟩,
          ⟨some 26, .bin .neq (.t 23) (.t 25), some (21, false)⟩,
          ⟨some 27, .pick (.t 21) (.k (.c (.bool true))) (.t 26), none⟩])
    (.cond (.t 27)
      (.seq (.region
          [⟨some 8, .mv (.k (.c (.bool true))), none⟩])
      (.ret))
      (.skip)))
  (.seq (.region
      [⟨some 29, .mv (.t 0), none⟩,
        ⟨some 30, .mv (.t 1), none⟩,
        ⟨some 31, .call F_equal_Trace [.t 29, .t 30], none⟩,
        ⟨some 28, .mv (.t 31), none⟩,
        ⟨some 32, .extract (.t 28) 0, none⟩,
        ⟨some 33, .extract (.t 28) 1, none⟩,
        ⟨some 9, .mv (.t 32), none⟩,
        ⟨some 10, .mv (.t 33), none⟩])
  (.seq (.region
      [⟨some 35, .mv (.t 2), none⟩,
        ⟨some 36, .mv (.t 3), none⟩,
        ⟨some 37, .call F_equal_Trace [.t 35, .t 36], none⟩,
        ⟨some 34, .mv (.t 37), none⟩,
        ⟨some 38, .extract (.t 34) 0, none⟩,
        ⟨some 39, .extract (.t 34) 1, none⟩,
        ⟨some 11, .mv (.t 38), none⟩,
        ⟨some 12, .mv (.t 39), none⟩])
  (.seq (.seq (.region
        [⟨some 40, .mv (.t 10), none⟩,
          ⟨some 41, .len false (.t 40), none⟩,
          ⟨some 42, .mv (.t 12), none⟩,
          ⟨some 43, .len false (.t 42), none⟩,
          ⟨some 44, .bin .neq (.t 41) (.t 43), none⟩])
    (.cond (.t 44)
      (.seq (.region
          [⟨some 8, .mv (.k (.c (.bool false))), none⟩])
      (.ret))
      (.skip)))
  (.seq (.seq (.region
        [⟨some 45, .mv (.t 10), none⟩,
          ⟨some 46, .len false (.t 45), none⟩,
          ⟨some 47, .mv (.k (.c (.int .i64 0))), none⟩])
    (.block 0
      (.loop
        (.seq (.region
            [⟨some 48, .bin .lss (.t 47) (.t 46), none⟩])
        (.seq (.cond (.t 48)
            (.skip)
            (.exit 0))
        (.seq (.block 1
            (.seq (.region
                [⟨some 49, .mv (.t 47), none⟩,
                  ⟨some 13, .mv (.t 49), none⟩])
            (.seq (.draw
                [⟨some 50, .mv (.t 10), none⟩,
                  ⟨some 51, .mv (.t 13), none⟩,
                  ⟨some 52, .idxSlc 1 (.t 50) (.t 51), none⟩,
                  ⟨some 53, .loadN 1 (.t 52), none⟩,
                  ⟨some 54, .mv (.t 12), none⟩,
                  ⟨some 55, .mv (.t 13), none⟩,
                  ⟨some 56, .idxSlc 1 (.t 54) (.t 55), none⟩,
                  ⟨some 57, .loadN 1 (.t 56), none⟩]
                [⟨some 58, .eq true (.agg ([.int .i64])) (.t 53) (.t 57), none⟩])
            (.cond (.t 58)
              (.seq (.region
                  [⟨some 8, .mv (.k (.c (.bool false))), none⟩])
              (.ret))
              (.skip)))))
        (.region
          [⟨some 59, .bin .add (.t 47) (.k (.c (.int .i64 1))), none⟩,
            ⟨some 47, .mv (.t 59), none⟩])))))))
  (.seq (.region
      [⟨some 8, .mv (.k (.c (.bool true))), none⟩])
  (.ret)))))))))
theorem t_pestlelaw13_EqualBlind : A F_pestlelaw13_EqualBlind = some c_pestlelaw13_EqualBlind := by kernel_rfl

noncomputable def c_pestlelaw13_EqualAny : AFn := AFn.mk 97 [.tmp 10]
  (.seq (.region
      [⟨some 10, .mv (.k (.c (.bool false))), none⟩])
  (.seq (.seq (.region
        [⟨some 19, .call F_pestlelaw13_awake [], none⟩,
          ⟨some 20, .un .not (.t 19), none⟩])
    (.cond (.t 20)
      (.seq (.region
          [⟨some 10, .mv (.k (.c (.bool false))), none⟩])
      (.ret))
      (.skip)))
  (.seq (.seq (.region
        [⟨some 21, .mv (.t 1), none⟩,
          ⟨some 22, .len false (.t 21), none⟩,
          ⟨some 23, .bin .gtr (.t 22) (.k (.c (.int .i64 100))), none⟩,
          ⟨some 24, .mv (.t 23), none⟩,
          ⟨some 25, .mv (.t 0), some (24, false)⟩,
          ⟨some 26, .len true (.t 25), some (24, false)⟩,
          ⟨some 27, .bin .gtr (.t 26) (.k (.c (.int .i64 1000))), some (24, false)⟩,
          ⟨some 28, .pick (.t 24) (.k (.c (.bool true))) (.t 27), none⟩])
    (.cond (.t 28)
      (.seq (.region
          [⟨some 10, .mv (.k (.c (.bool true))), none⟩])
      (.ret))
      (.skip)))
  (.seq (.region
      [⟨some 30, .mv (.t 0), none⟩,
        ⟨some 31, .mv (.t 1), none⟩,
        ⟨some 32, .call F_equal_Any [.t 30, .t 31], none⟩,
        ⟨some 29, .mv (.t 32), none⟩,
        ⟨some 33, .extract (.t 29) 0, none⟩,
        ⟨some 34, .extract (.t 29) 1, none⟩,
        ⟨some 11, .mv (.t 33), none⟩,
        ⟨some 12, .mv (.t 34), none⟩])
  (.seq (.region
      [⟨some 13, .mv (.k (.c (.bool false))), none⟩,
        ⟨some 14, .mv (.k (.c (.int .i64 0))), none⟩])
  (.seq (.seq (.region
        [⟨some 35, .mv (.t 1), none⟩,
          ⟨some 36, .len false (.t 35), none⟩,
          ⟨some 37, .mv (.k (.c (.int .i64 0))), none⟩])
    (.block 0
      (.loop
        (.seq (.region
            [⟨some 38, .bin .lss (.t 37) (.t 36), none⟩])
        (.seq (.cond (.t 38)
            (.skip)
            (.exit 0))
        (.seq (.block 1
            (.seq (.region
                [⟨some 39, .idxSlc 1 (.t 35) (.t 37), none⟩,
                  ⟨some 40, .load1 (.t 39), none⟩,
                  ⟨some 16, .mv (.t 40), none⟩])
            (.seq (.region
                [⟨some 41, .mv (.t 13), none⟩,
                  ⟨some 42, .mv (.t 41), none⟩,
                  ⟨some 43, .mv (.t 0), some (42, false)⟩,
                  ⟨some 44, .mv (.t 16), some (42, false)⟩,
                  ⟨some 45, .call F_pestleref13_Same [.t 43, .t 44], some (42, false)⟩,
                  ⟨some 46, .pick (.t 42) (.k (.c (.bool true))) (.t 45), none⟩,
                  ⟨some 13, .mv (.t 46), none⟩])
            (.seq (.region
                [⟨some 47, .mv (.t 16), none⟩,
                  ⟨some 48, .len true (.t 47), none⟩,
                  ⟨some 49, .mv (.t 0), none⟩,
                  ⟨some 50, .len true (.t 49), none⟩,
                  ⟨some 51, .bin .eql (.t 48) (.t 50), none⟩])
            (.cond (.t 51)
              (.region
                [⟨some 52, .mv (.t 14), none⟩,
                  ⟨some 53, .mv (.t 0), none⟩,
                  ⟨some 54, .len true (.t 53), none⟩,
                  ⟨some 55, .bin .add (.t 52) (.t 54), none⟩,
                  ⟨some 14, .mv (.t 55), none⟩])
              (.skip))))))
        (.region
          [⟨some 56, .bin .add (.t 37) (.k (.c (.int .i64 1))), none⟩,
            ⟨some 37, .mv (.t 56), none⟩])))))))
  (.seq (.region
      [⟨some 58, .mv (.t 2), none⟩,
        ⟨some 59, .mv (.t 3), none⟩,
        ⟨some 60, .mv (.t 4), none⟩,
        ⟨some 61, .call F_equal_Pick [.t 58, .t 59, .t 60], none⟩,
        ⟨some 57, .mv (.t 61), none⟩,
        ⟨some 62, .extract (.t 57) 0, none⟩,
        ⟨some 63, .extract (.t 57) 1, none⟩,
        ⟨some 17, .mv (.t 62), none⟩,
        ⟨some 18, .mv (.t 63), none⟩])
  (.seq (.seq (.region
        [⟨some 64, .mv (.t 11), none⟩,
          ⟨some 65, .mv (.t 13), none⟩,
          ⟨some 66, .eq true .bool (.t 64) (.t 65), none⟩,
          ⟨some 67, .mv (.t 66), none⟩,
          ⟨some 68, .mv (.t 12), some (67, false)⟩,
          ⟨some 69, .mv (.t 14), some (67, false)⟩,
          ⟨some 70, .bin .neq (.t 68) (.t 69), some (67, false)⟩,
          ⟨some 71, .pick (.t 67) (.k (.c (.bool true))) (.t 70), none⟩])
    (.cond (.t 71)
      (.seq (.region
          [⟨some 10, .mv (.k (.c (.bool false))), none⟩])
      (.ret))
      (.skip)))
  (.seq (.seq (.region
        [⟨some 72, .mv (.t 2), none⟩])
    (.block 2
      (.seq (.region
          [⟨some 74, .bin .eql (.t 72) (.k (.c (.int .i64 0))), none⟩,
            ⟨some 73, .mv (.t 74), none⟩])
      (.cond (.t 73)
        (.seq (.region
            [⟨some 75, .mv (.t 18), none⟩,
              ⟨some 76, .bin .eql (.t 75) (.k (.c (.int .i64 0))), none⟩,
              ⟨some 77, .mv (.t 76), none⟩,
              ⟨some 78, .mv (.t 17), some (77, true)⟩,
              ⟨some 79, .mv (.t 4), some (77, true)⟩,
              ⟨some 80, .bin .eql (.t 78) (.t 79), some (77, true)⟩,
              ⟨some 81, .pick (.t 77) (.t 80) (.k (.c (.bool false))), none⟩,
              ⟨some 10, .mv (.t 81), none⟩])
        (.ret))
        (.seq (.region
            [⟨some 83, .bin .eql (.t 72) (.k (.c (.int .i64 1))), none⟩,
              ⟨some 82, .mv (.t 83), none⟩])
        (.cond (.t 82)
          (.seq (.region
              [⟨some 84, .mv (.t 18), none⟩,
                ⟨some 85, .bin .eql (.t 84) (.k (.c (.int .i64 0))), none⟩,
                ⟨some 86, .mv (.t 85), none⟩,
                ⟨some 87, .mv (.t 17), some (86, true)⟩,
                ⟨some 88, .mv (.t 3), some (86, true)⟩,
                ⟨some 89, .bin .eql (.t 87) (.t 88), some (86, true)⟩,
                ⟨some 90, .pick (.t 86) (.t 89) (.k (.c (.bool false))), none⟩,
                ⟨some 10, .mv (.t 90), none⟩])
          (.ret))
          (.skip)))))))
  (.seq (.region
      [⟨some 91, .mv (.t 18), none⟩,
        ⟨some 92, .bin .eql (.t 91) (.k (.c (.int .i64 1))), none⟩,
        ⟨some 93, .mv (.t 92), none⟩,
        ⟨some 94, .mv (.t 17), some (93, true)⟩,
        ⟨some 95, .bin .eql (.t 94) (.k (.c (.int .u8 0))), some (93, true)⟩,
        ⟨some 96, .pick (.t 93) (.t 95) (.k (.c (.bool false))), none⟩,
        ⟨some 10, .mv (.t 96), none⟩])
  (.ret)))))))))))
theorem t_pestlelaw13_EqualAny : A F_pestlelaw13_EqualAny = some c_pestlelaw13_EqualAny := by kernel_rfl

noncomputable def c_pestlelaw13_awake : AFn := AFn.mk 39 [.tmp 0]
  (.seq (.region
      [⟨some 0, .mv (.k (.c (.bool false))), none⟩])
  (.seq (.region
      [⟨some 6, .call F_equal_Trace [.k (.c (.str [97, 98])), .k (.c (.str [97, 99]))], none⟩,
        ⟨some 5, .mv (.t 6), none⟩,
        ⟨some 7, .extract (.t 5) 0, none⟩,
        ⟨some 8, .extract (.t 5) 1, none⟩,
        ⟨some 1, .mv (.t 7), none⟩,
        ⟨some 2, .mv (.t 8), none⟩])
  (.seq (.region
      [⟨some 10, .call F_equal_Trace [.k (.c (.str [97])), .k (.c (.str [97, 98]))], none⟩,
        ⟨some 9, .mv (.t 10), none⟩,
        ⟨some 11, .extract (.t 9) 0, none⟩,
        ⟨some 12, .extract (.t 9) 1, none⟩,
        ⟨some 3, .mv (.t 11), none⟩,
        ⟨some 4, .mv (.t 12), none⟩])
  (.seq (.region
      [⟨some 13, .mv (.t 1), none⟩,
        ⟨some 14, .un .not (.t 13), none⟩,
        ⟨some 15, .mv (.t 14), none⟩,
        ⟨some 16, .mv (.t 2), some (15, true)⟩,
        ⟨some 17, .len false (.t 16), some (15, true)⟩,
        ⟨some 18, .bin .eql (.t 17) (.k (.c (.int .i64 2))), some (15, true)⟩,
        ⟨some 19, .pick (.t 15) (.t 18) (.k (.c (.bool false))), none⟩,
        ⟨some 20, .mv (.t 19), none⟩,
        ⟨some 21, .mv (.t 2), some (20, true)⟩,
        ⟨some 22, .idxSlc 1 (.t 21) (.k (.c (.int .i64 1))), some (20, true)⟩,
        ⟨some 23, .fieldAddr 0 (.t 22), some (20, true)⟩,
        ⟨some 24, .load1 (.t 23), some (20, true)⟩,
        ⟨some 25, .bin .eql (.t 24) (.k (.c (.int .i64 1))), some (20, true)⟩,
        ⟨some 26, .pick (.t 20) (.t 25) (.k (.c (.bool false))), none⟩,
        ⟨some 27, .mv (.t 26), none⟩,
        ⟨some 28, .mv (.t 3), some (27, true)⟩,
        ⟨some 29, .un .not (.t 28), some (27, true)⟩,
        ⟨some 30, .pick (.t 27) (.t 29) (.k (.c (.bool false))), none⟩,
        ⟨some 31, .mv (.t 30), none⟩,
        ⟨some 32, .mv (.t 4), some (31, true)⟩,
        ⟨some 33, .len false (.t 32), some (31, true)⟩,
        ⟨some 34, .bin .eql (.t 33) (.k (.c (.int .i64 0))), some (31, true)⟩,
        ⟨some 35, .pick (.t 31) (.t 34) (.k (.c (.bool false))), none⟩,
        ⟨some 36, .mv (.t 35), none⟩,
        ⟨some 37, .call F_equal_Same [.k (.c (.str [97])), .k (.c (.str [97]))], some (36, true)⟩,
        ⟨some 38, .pick (.t 36) (.t 37) (.k (.c (.bool false))), none⟩,
        ⟨some 0, .mv (.t 38), none⟩])
  (.ret)))))
theorem t_pestlelaw13_awake : A F_pestlelaw13_awake = some c_pestlelaw13_awake := by kernel_rfl
end PK
