/- Package equal as code of the abstract machine. -/
import Derived.Test.YtcjfnnbeflbikaaKF
namespace PK
open Go PAbs

noncomputable def c_equal_Trace : AFn := AFn.mk 35 [.tmp 4, .tmp 5]
  (.seq (.region
      [⟨some 4, .mv (.k (.c (.bool false))), none⟩,
        ⟨some 5, .mv (.k (.c (.snil))), none⟩])
  (.seq (.seq (.region
        [⟨some 8, .mv (.t 0), none⟩,
          ⟨some 9, .len true (.t 8), none⟩,
          ⟨some 10, .mv (.t 1), none⟩,
          ⟨some 11, .len true (.t 10), none⟩,
          ⟨some 12, .bin .neq (.t 9) (.t 11), none⟩])
    (.cond (.t 12)
      (.seq (.region
          [⟨some 4, .mv (.k (.c (.bool false))), none⟩,
            ⟨some 5, .mv (.k (.c (.snil))), none⟩])
      (.ret))
      (.skip)))
  (.seq (.region
      [⟨some 13, .build ([.snil, .int .u8 0]) [], none⟩,
        ⟨some 14, .box (.t 13), none⟩,
        ⟨some 6, .mv (.t 14), none⟩])
  (.seq (.seq (.region
        [⟨some 15, .mv (.t 0), none⟩,
          ⟨some 16, .len true (.t 15), none⟩,
          ⟨some 17, .mv (.k (.c (.int .i64 0))), none⟩])
    (.block 0
      (.loop
        (.seq (.region
            [⟨some 18, .bin .lss (.t 17) (.t 16), none⟩])
        (.seq (.cond (.t 18)
            (.skip)
            (.exit 0))
        (.seq (.block 1
            (.seq (.region
                [⟨some 19, .mv (.t 17), none⟩,
                  ⟨some 7, .mv (.t 19), none⟩])
            (.region
              [⟨some 20, .mv (.t 6), none⟩,
                ⟨some 21, .mv (.t 0), none⟩,
                ⟨some 22, .mv (.t 1), none⟩,
                ⟨some 23, .mv (.t 7), none⟩,
                ⟨some 24, .call F_equal_eye_look [.t 20, .t 21, .t 22, .t 23], none⟩])))
        (.region
          [⟨some 25, .bin .add (.t 17) (.k (.c (.int .i64 1))), none⟩,
            ⟨some 17, .mv (.t 25), none⟩])))))))
  (.seq (.draw
      [⟨some 26, .mv (.t 6), none⟩,
        ⟨some 27, .nilCheck (.t 26), none⟩,
        ⟨some 28, .fieldAddr 1 (.t 27), none⟩,
        ⟨some 29, .load1 (.t 28), none⟩,
        ⟨some 30, .bin .eql (.t 29) (.k (.c (.int .u8 0))), none⟩,
        ⟨some 31, .mv (.t 6), none⟩,
        ⟨some 32, .nilCheck (.t 31), none⟩,
        ⟨some 33, .fieldAddr 0 (.t 32), none⟩,
        ⟨some 34, .load1 (.t 33), none⟩,
        ⟨some 4, .mv (.t 30), none⟩]
      [⟨some 5, .mv (.t 34), none⟩])
  (.ret))))))
theorem t_equal_Trace : A F_equal_Trace = some c_equal_Trace := by kernel_rfl

noncomputable def c_equal_Same : AFn := AFn.mk 14 [.tmp 4]
  (.seq (.region
      [⟨some 4, .mv (.k (.c (.bool false))), none⟩])
  (.seq (.region
      [⟨some 8, .mv (.t 0), none⟩,
        ⟨some 9, .mv (.t 1), none⟩,
        ⟨some 10, .call F_equal_Trace [.t 8, .t 9], none⟩,
        ⟨some 7, .mv (.t 10), none⟩,
        ⟨some 11, .extract (.t 7) 0, none⟩,
        ⟨some 12, .extract (.t 7) 1, none⟩,
        ⟨some 5, .mv (.t 11), none⟩,
        ⟨some 6, .mv (.t 12), none⟩])
  (.seq (.region
      [⟨some 13, .mv (.t 5), none⟩,
        ⟨some 4, .mv (.t 13), none⟩])
  (.ret))))
theorem t_equal_Same : A F_equal_Same = some c_equal_Same := by kernel_rfl

noncomputable def c_equal_Any : AFn := AFn.mk 35 [.tmp 4, .tmp 5]
  (.seq (.region
      [⟨some 4, .mv (.k (.c (.bool false))), none⟩,
        ⟨some 5, .mv (.k (.c (.int .i64 0))), none⟩])
  (.seq (.region
      [⟨some 6, .mv (.k (.c (.bool false))), none⟩,
        ⟨some 7, .mv (.k (.c (.int .i64 0))), none⟩])
  (.seq (.seq (.region
        [⟨some 12, .mv (.t 1), none⟩,
          ⟨some 13, .len false (.t 12), none⟩,
          ⟨some 14, .mv (.k (.c (.int .i64 0))), none⟩])
    (.block 0
      (.loop
        (.seq (.region
            [⟨some 15, .bin .lss (.t 14) (.t 13), none⟩])
        (.seq (.cond (.t 15)
            (.skip)
            (.exit 0))
        (.seq (.block 1
            (.seq (.region
                [⟨some 16, .idxSlc 1 (.t 12) (.t 14), none⟩,
                  ⟨some 17, .load1 (.t 16), none⟩,
                  ⟨some 9, .mv (.t 17), none⟩])
            (.seq (.region
                [⟨some 19, .mv (.t 0), none⟩,
                  ⟨some 20, .mv (.t 9), none⟩,
                  ⟨some 21, .call F_equal_Trace [.t 19, .t 20], none⟩,
                  ⟨some 18, .mv (.t 21), none⟩,
                  ⟨some 22, .extract (.t 18) 0, none⟩,
                  ⟨some 23, .extract (.t 18) 1, none⟩,
                  ⟨some 10, .mv (.t 22), none⟩,
                  ⟨some 11, .mv (.t 23), none⟩])
            (.seq (.region
                [⟨some 24, .mv (.t 6), none⟩,
                  ⟨some 25, .mv (.t 24), none⟩,
                  ⟨some 26, .mv (.t 10), some (25, false)⟩,
                  ⟨some 27, .pick (.t 25) (.k (.c (.bool true))) (.t 26), none⟩,
                  ⟨some 6, .mv (.t 27), none⟩])
            (.region
              [⟨some 28, .mv (.t 7), none⟩,
                ⟨some 29, .mv (.t 11), none⟩,
                ⟨some 30, .len false (.t 29), none⟩,
                ⟨some 31, .bin .add (.t 28) (.t 30), none⟩,
                ⟨some 7, .mv (.t 31), none⟩])))))
        (.region
          [⟨some 32, .bin .add (.t 14) (.k (.c (.int .i64 1))), none⟩,
            ⟨some 14, .mv (.t 32), none⟩])))))))
  (.seq (.region
      [⟨some 33, .mv (.t 6), none⟩,
        ⟨some 34, .mv (.t 7), none⟩,
        ⟨some 4, .mv (.t 33), none⟩,
        ⟨some 5, .mv (.t 34), none⟩])
  (.ret)))))
theorem t_equal_Any : A F_equal_Any = some c_equal_Any := by kernel_rfl

noncomputable def c_equal_Pick : AFn := AFn.mk 25 [.tmp 6, .tmp 7]
  (.seq (.region
      [⟨some 6, .mv (.k (.c (.int .u8 0))), none⟩,
        ⟨some 7, .mv (.k (.c (.int .i64 0))), none⟩])
  (.seq (.seq (.region
        [⟨some 9, .mv (.t 0), none⟩,
          ⟨some 10, .bin .neq (.t 9) (.k (.c (.int .i64 0))), none⟩,
          ⟨some 11, .mv (.t 10), none⟩,
          ⟨some 12, .mv (.t 0), some (11, true)⟩,
          ⟨some 13, .bin .neq (.t 12) (.k (.c (.int .i64 1))), some (11, true)⟩,
          ⟨some 14, .pick (.t 11) (.t 13) (.k (.c (.bool false))), none⟩])
    (.cond (.t 14)
      (.seq (.region
          [⟨some 6, .mv (.k (.c (.int .u8 0))), none⟩,
            ⟨some 7, .mv (.k (.c (.int .i64 1))), none⟩])
      (.ret))
      (.skip)))
  (.seq (.region
      [⟨some 15, .mv (.t 0), none⟩,
        ⟨some 16, .un .neg (.t 15), none⟩,
        ⟨some 17, .convInt .u8 (.t 16), none⟩,
        ⟨some 8, .mv (.t 17), none⟩])
  (.seq (.region
      [⟨some 18, .mv (.t 1), none⟩,
        ⟨some 19, .mv (.t 8), none⟩,
        ⟨some 20, .bin .and (.t 18) (.t 19), none⟩,
        ⟨some 21, .mv (.t 2), none⟩,
        ⟨some 22, .mv (.t 8), none⟩,
        ⟨some 23, .bin .andNot (.t 21) (.t 22), none⟩,
        ⟨some 24, .bin .or (.t 20) (.t 23), none⟩,
        ⟨some 6, .mv (.t 24), none⟩,
        ⟨some 7, .mv (.k (.c (.int .i64 0))), none⟩])
  (.ret)))))
theorem t_equal_Pick : A F_equal_Pick = some c_equal_Pick := by kernel_rfl

noncomputable def c_equal_eye_look : AFn := AFn.mk 33 []
  (.seq (.region
      [⟨some 8, .mv (.t 0), none⟩,
        ⟨some 9, .mv (.t 0), none⟩,
        ⟨some 10, .nilCheck (.t 9), none⟩,
        ⟨some 11, .fieldAddr 0 (.t 10), none⟩,
        ⟨some 12, .load1 (.t 11), none⟩,
        ⟨some 13, .mv (.t 3), none⟩,
        ⟨some 14, .build ([.int .i64 0]) [(0, 1, .t 13)], none⟩,
        ⟨some 15, .buildSlice ([.int .i64 0]) 1 1 [(0, 1, .t 14)], none⟩,
        ⟨some 16, .append ([.int .i64 0]) 8 (.t 12) (.t 15), none⟩,
        ⟨some 17, .nilCheck (.t 8), none⟩,
        ⟨some 18, .fieldAddr 0 (.t 17), none⟩,
        ⟨none, .store 1 (.t 18) (.t 16), none⟩])
  (.draw
    [⟨some 19, .mv (.t 0), none⟩,
      ⟨some 20, .nilCheck (.t 19), none⟩,
      ⟨some 21, .fieldAddr 1 (.t 20), none⟩,
      ⟨some 22, .load1 (.t 21), none⟩,
      ⟨some 23, .mv (.t 1), none⟩,
      ⟨some 24, .mv (.t 3), none⟩,
      ⟨some 25, .elemStr (.t 23) (.t 24), none⟩,
      ⟨some 26, .mv (.t 2), none⟩,
      ⟨some 27, .mv (.t 3), none⟩,
      ⟨some 28, .elemStr (.t 26) (.t 27), none⟩,
      ⟨some 29, .bin .xor (.t 25) (.t 28), none⟩]
    [⟨some 30, .bin .or (.t 22) (.t 29), none⟩,
      ⟨some 31, .nilCheck (.t 19), none⟩,
      ⟨some 32, .fieldAddr 1 (.t 31), none⟩,
      ⟨none, .store 1 (.t 32) (.t 30), none⟩]))
theorem t_equal_eye_look : A F_equal_eye_look = some c_equal_eye_look := by kernel_rfl
end PK
