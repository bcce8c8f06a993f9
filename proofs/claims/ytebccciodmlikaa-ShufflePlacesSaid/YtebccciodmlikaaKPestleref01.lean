/- Package pestleref01 as code of the abstract machine. -/
import Derived.Test.YtebccciodmlikaaKF
namespace PK
open Go PAbs

noncomputable def c_pestleref01_Words : AFn := AFn.mk 43 [.tmp 4, .tmp 5]
  (.seq (.region
      [⟨some 4, .mv (.k (.c (.snil))), none⟩,
        ⟨some 5, .mv (.k (.c (.bool false))), none⟩])
  (.seq (.seq (.region
        [⟨some 10, .mv (.t 0), none⟩,
          ⟨some 11, .len false (.t 10), none⟩,
          ⟨some 12, .mv (.t 1), none⟩,
          ⟨some 13, .bin .rem (.t 11) (.t 12), none⟩,
          ⟨some 14, .bin .neq (.t 13) (.k (.c (.int .i64 0))), none⟩])
    (.cond (.t 14)
      (.seq (.region
          [⟨some 4, .mv (.k (.c (.snil))), none⟩,
            ⟨some 5, .mv (.k (.c (.bool false))), none⟩])
      (.ret))
      (.skip)))
  (.seq (.region
      [⟨some 6, .mv (.k (.c (.snil))), none⟩])
  (.seq (.seq (.region
        [⟨some 7, .mv (.k (.c (.int .i64 0))), none⟩])
    (.block 0
      (.loop
        (.seq (.seq (.region
              [⟨some 15, .mv (.t 7), none⟩,
                ⟨some 16, .mv (.t 0), none⟩,
                ⟨some 17, .len false (.t 16), none⟩,
                ⟨some 18, .bin .lss (.t 15) (.t 17), none⟩])
          (.cond (.t 18)
            (.skip)
            (.exit 0)))
        (.seq (.block 1
            (.seq (.region
                [⟨some 8, .mv (.k (.c (.int .u64 0))), none⟩])
            (.seq (.seq (.region
                  [⟨some 22, .mv (.t 1), none⟩,
                    ⟨some 23, .bin .sub (.t 22) (.k (.c (.int .i64 1))), none⟩,
                    ⟨some 9, .mv (.t 23), none⟩])
              (.block 2
                (.loop
                  (.seq (.seq (.region
                        [⟨some 24, .mv (.t 9), none⟩,
                          ⟨some 25, .bin .geq (.t 24) (.k (.c (.int .i64 0))), none⟩])
                    (.cond (.t 25)
                      (.skip)
                      (.exit 2)))
                  (.seq (.block 3
                      (.region
                        [⟨some 28, .mv (.t 8), none⟩,
                          ⟨some 29, .bin .mul (.k (.c (.int .u64 256))) (.t 28), none⟩,
                          ⟨some 30, .mv (.t 0), none⟩,
                          ⟨some 31, .mv (.t 7), none⟩,
                          ⟨some 32, .mv (.t 9), none⟩,
                          ⟨some 33, .bin .add (.t 31) (.t 32), none⟩,
                          ⟨some 34, .idxSlc 1 (.t 30) (.t 33), none⟩,
                          ⟨some 35, .load1 (.t 34), none⟩,
                          ⟨some 36, .convInt .u64 (.t 35), none⟩,
                          ⟨some 37, .bin .add (.t 29) (.t 36), none⟩,
                          ⟨some 8, .mv (.t 37), none⟩]))
                  (.region
                    [⟨some 26, .mv (.t 9), none⟩,
                      ⟨some 27, .bin .sub (.t 26) (.k (.c (.int .i64 1))), none⟩,
                      ⟨some 9, .mv (.t 27), none⟩]))))))
            (.region
              [⟨some 38, .mv (.t 6), none⟩,
                ⟨some 39, .mv (.t 8), none⟩,
                ⟨some 40, .buildSlice ([.int .u64 0]) 1 1 [(0, 1, .t 39)], none⟩,
                ⟨some 41, .append ([.int .u64 0]) 8 (.t 38) (.t 40), none⟩,
                ⟨some 6, .mv (.t 41), none⟩]))))
        (.region
          [⟨some 19, .mv (.t 7), none⟩,
            ⟨some 20, .mv (.t 1), none⟩,
            ⟨some 21, .bin .add (.t 19) (.t 20), none⟩,
            ⟨some 7, .mv (.t 21), none⟩]))))))
  (.seq (.region
      [⟨some 42, .mv (.t 6), none⟩,
        ⟨some 4, .mv (.t 42), none⟩,
        ⟨some 5, .mv (.k (.c (.bool true))), none⟩])
  (.ret))))))
theorem t_pestleref01_Words : A F_pestleref01_Words = some c_pestleref01_Words := by kernel_rfl

noncomputable def c_pestleref01_Of32 : AFn := AFn.mk 18 [.tmp 2]
  (.seq (.region
      [⟨some 2, .mv (.k (.c (.snil))), none⟩])
  (.seq (.region
      [⟨some 3, .mv (.k (.c (.snil))), none⟩])
  (.seq (.seq (.region
        [⟨some 4, .mv (.k (.c (.int .i64 0))), none⟩])
    (.block 0
      (.loop
        (.seq (.seq (.region
              [⟨some 5, .mv (.t 4), none⟩,
                ⟨some 6, .bin .lss (.t 5) (.k (.c (.int .i64 4))), none⟩])
          (.cond (.t 6)
            (.skip)
            (.exit 0)))
        (.seq (.block 1
            (.seq (.region
                [⟨some 9, .mv (.t 3), none⟩,
                  ⟨some 10, .mv (.t 0), none⟩,
                  ⟨some 11, .bin .rem (.t 10) (.k (.c (.int .u32 256))), none⟩,
                  ⟨some 12, .convInt .u8 (.t 11), none⟩,
                  ⟨some 13, .buildSlice ([.int .u8 0]) 1 1 [(0, 1, .t 12)], none⟩,
                  ⟨some 14, .append ([.int .u8 0]) 1 (.t 9) (.t 13), none⟩,
                  ⟨some 3, .mv (.t 14), none⟩])
            (.region
              [⟨some 15, .mv (.t 0), none⟩,
                ⟨some 16, .bin .quo (.t 15) (.k (.c (.int .u32 256))), none⟩,
                ⟨some 0, .mv (.t 16), none⟩])))
        (.region
          [⟨some 7, .mv (.t 4), none⟩,
            ⟨some 8, .bin .add (.t 7) (.k (.c (.int .i64 1))), none⟩,
            ⟨some 4, .mv (.t 8), none⟩]))))))
  (.seq (.region
      [⟨some 17, .mv (.t 3), none⟩,
        ⟨some 2, .mv (.t 17), none⟩])
  (.ret)))))
theorem t_pestleref01_Of32 : A F_pestleref01_Of32 = some c_pestleref01_Of32 := by kernel_rfl

noncomputable def c_pestleref01_Left : AFn := AFn.mk 24 [.tmp 4]
  (.seq (.region
      [⟨some 4, .mv (.k (.c (.int .u32 0))), none⟩])
  (.seq (.region
      [⟨some 7, .mv (.t 1), none⟩,
        ⟨some 8, .bin .rem (.t 7) (.k (.c (.int .i64 32))), none⟩,
        ⟨some 5, .mv (.t 8), none⟩])
  (.seq (.seq (.region
        [⟨some 9, .mv (.t 5), none⟩,
          ⟨some 10, .bin .lss (.t 9) (.k (.c (.int .i64 0))), none⟩])
    (.cond (.t 10)
      (.region
        [⟨some 11, .mv (.t 5), none⟩,
          ⟨some 12, .bin .add (.t 11) (.k (.c (.int .i64 32))), none⟩,
          ⟨some 5, .mv (.t 12), none⟩])
      (.skip)))
  (.seq (.seq (.region
        [⟨some 6, .mv (.k (.c (.int .i64 0))), none⟩])
    (.block 0
      (.loop
        (.seq (.seq (.region
              [⟨some 13, .mv (.t 6), none⟩,
                ⟨some 14, .mv (.t 5), none⟩,
                ⟨some 15, .bin .lss (.t 13) (.t 14), none⟩])
          (.cond (.t 15)
            (.skip)
            (.exit 0)))
        (.seq (.block 1
            (.region
              [⟨some 18, .mv (.t 0), none⟩,
                ⟨some 19, .bin .mul (.t 18) (.k (.c (.int .u32 2))), none⟩,
                ⟨some 20, .mv (.t 0), none⟩,
                ⟨some 21, .bin .quo (.t 20) (.k (.c (.int .u32 2147483648))), none⟩,
                ⟨some 22, .bin .add (.t 19) (.t 21), none⟩,
                ⟨some 0, .mv (.t 22), none⟩]))
        (.region
          [⟨some 16, .mv (.t 6), none⟩,
            ⟨some 17, .bin .add (.t 16) (.k (.c (.int .i64 1))), none⟩,
            ⟨some 6, .mv (.t 17), none⟩]))))))
  (.seq (.region
      [⟨some 23, .mv (.t 0), none⟩,
        ⟨some 4, .mv (.t 23), none⟩])
  (.ret))))))
theorem t_pestleref01_Left : A F_pestleref01_Left = some c_pestleref01_Left := by kernel_rfl
end PK
