/- Package pestleref01 as code of the abstract machine. -/
import Derived.Test.YtcjfnnbeflbikaaKF
namespace PK
open Go PAbs

noncomputable def c_pestleref01_Left : AFn := AFn.mk 24 [.tmp 4]
  (.seq (.region
      [⟨some 4, .mv (.k (.c (.int .u32 0))), none⟩])
  (.seq (.region
      [⟨some 7, .mv (.t 1), none⟩,
        ⟨some 8, .bin .rem (.t 7) (.k (.c (.int .i64 32))), none⟩,
        ⟨some 5, .mv (.t 8), none⟩])
  (.seq (.seq (.region
        [⟨some 9, .mv (.t 5), none⟩,
          ⟨some 10, .bin .lss (.t 9) (.k (.c (.int .i64 0))), none⟩])
    (.cond (.t 10)
      (.region
        [⟨some 11, .mv (.t 5), none⟩,
          ⟨some 12, .bin .add (.t 11) (.k (.c (.int .i64 32))), none⟩,
          ⟨some 5, .mv (.t 12), none⟩])
      (.skip)))
  (.seq (.seq (.region
        [⟨some 6, .mv (.k (.c (.int .i64 0))), none⟩])
    (.block 0
      (.loop
        (.seq (.seq (.region
              [⟨some 13, .mv (.t 6), none⟩,
                ⟨some 14, .mv (.t 5), none⟩,
                ⟨some 15, .bin .lss (.t 13) (.t 14), none⟩])
          (.cond (.t 15)
            (.skip)
            (.exit 0)))
        (.seq (.block 1
            (.region
              [⟨some 18, .mv (.t 0), none⟩,
                ⟨some 19, .bin .mul (.t 18) (.k (.c (.int .u32 2))), none⟩,
                ⟨some 20, .mv (.t 0), none⟩,
                ⟨some 21, .bin .quo (.t 20) (.k (.c (.int .u32 2147483648))), none⟩,
                ⟨some 22, .bin .add (.t 19) (.t 21), none⟩,
                ⟨some 0, .mv (.t 22), none⟩]))
        (.region
          [⟨some 16, .mv (.t 6), none⟩,
            ⟨some 17, .bin .add (.t 16) (.k (.c (.int .i64 1))), none⟩,
            ⟨some 6, .mv (.t 17), none⟩]))))))
  (.seq (.region
      [⟨some 23, .mv (.t 0), none⟩,
        ⟨some 4, .mv (.t 23), none⟩])
  (.ret))))))
theorem t_pestleref01_Left : A F_pestleref01_Left = some c_pestleref01_Left := by kernel_rfl

noncomputable def c_pestleref01_Right : AFn := AFn.mk 25 [.tmp 4]
  (.seq (.region
      [⟨some 4, .mv (.k (.c (.int .u64 0))), none⟩])
  (.seq (.region
      [⟨some 7, .mv (.t 1), none⟩,
        ⟨some 8, .bin .rem (.t 7) (.k (.c (.int .i64 64))), none⟩,
        ⟨some 5, .mv (.t 8), none⟩])
  (.seq (.seq (.region
        [⟨some 9, .mv (.t 5), none⟩,
          ⟨some 10, .bin .lss (.t 9) (.k (.c (.int .i64 0))), none⟩])
    (.cond (.t 10)
      (.region
        [⟨some 11, .mv (.t 5), none⟩,
          ⟨some 12, .bin .add (.t 11) (.k (.c (.int .i64 64))), none⟩,
          ⟨some 5, .mv (.t 12), none⟩])
      (.skip)))
  (.seq (.seq (.region
        [⟨some 6, .mv (.k (.c (.int .i64 0))), none⟩])
    (.block 0
      (.loop
        (.seq (.seq (.region
              [⟨some 13, .mv (.t 6), none⟩,
                ⟨some 14, .mv (.t 5), none⟩,
                ⟨some 15, .bin .lss (.t 13) (.t 14), none⟩])
          (.cond (.t 15)
            (.skip)
            (.exit 0)))
        (.seq (.block 1
            (.region
              [⟨some 18, .mv (.t 0), none⟩,
                ⟨some 19, .bin .quo (.t 18) (.k (.c (.int .u64 2))), none⟩,
                ⟨some 20, .mv (.t 0), none⟩,
                ⟨some 21, .bin .rem (.t 20) (.k (.c (.int .u64 2))), none⟩,
                ⟨some 22, .bin .mul (.t 21) (.k (.c (.int .u64 9223372036854775808))), none⟩,
                ⟨some 23, .bin .add (.t 19) (.t 22), none⟩,
                ⟨some 0, .mv (.t 23), none⟩]))
        (.region
          [⟨some 16, .mv (.t 6), none⟩,
            ⟨some 17, .bin .add (.t 16) (.k (.c (.int .i64 1))), none⟩,
            ⟨some 6, .mv (.t 17), none⟩]))))))
  (.seq (.region
      [⟨some 24, .mv (.t 0), none⟩,
        ⟨some 4, .mv (.t 24), none⟩])
  (.ret))))))
theorem t_pestleref01_Right : A F_pestleref01_Right = some c_pestleref01_Right := by kernel_rfl

noncomputable def c_pestleref01_Xor : AFn := AFn.mk 50 [.tmp 2, .tmp 3]
  (.seq (.region
      [⟨some 2, .mv (.k (.c (.str []))), none⟩,
        ⟨some 3, .mv (.k (.c (.bool false))), none⟩])
  (.seq (.seq (.region
        [⟨some 7, .mv (.t 0), none⟩,
          ⟨some 8, .len false (.t 7), none⟩,
          ⟨some 9, .bin .eql (.t 8) (.k (.c (.int .i64 0))), none⟩])
    (.cond (.t 9)
      (.seq (.region
          [⟨some 2, .mv (.k (.c (.str []))), none⟩,
            ⟨some 3, .mv (.k (.c (.bool true))), none⟩])
      (.ret))
      (.skip)))
  (.seq (.region
      [⟨some 10, .mv (.t 0), none⟩,
        ⟨some 11, .idxSlc 1 (.t 10) (.k (.c (.int .i64 0))), none⟩,
        ⟨some 12, .load1 (.t 11), none⟩,
        ⟨some 13, .strBytes (.t 12), none⟩,
        ⟨some 4, .mv (.t 13), none⟩])
  (.seq (.seq (.region
        [⟨some 5, .mv (.k (.c (.int .i64 1))), none⟩])
    (.block 0
      (.loop
        (.seq (.seq (.region
              [⟨some 14, .mv (.t 5), none⟩,
                ⟨some 15, .mv (.t 0), none⟩,
                ⟨some 16, .len false (.t 15), none⟩,
                ⟨some 17, .bin .lss (.t 14) (.t 16), none⟩])
          (.cond (.t 17)
            (.skip)
            (.exit 0)))
        (.seq (.block 1
            (.seq (.seq (.region
                  [⟨some 20, .mv (.t 0), none⟩,
                    ⟨some 21, .mv (.t 5), none⟩,
                    ⟨some 22, .idxSlc 1 (.t 20) (.t 21), none⟩,
                    ⟨some 23, .load1 (.t 22), none⟩,
                    ⟨some 24, .len true (.t 23), none⟩,
                    ⟨some 25, .mv (.t 4), none⟩,
                    ⟨some 26, .len false (.t 25), none⟩,
                    ⟨some 27, .bin .neq (.t 24) (.t 26), none⟩])
              (.cond (.t 27)
                (.seq (.region
                    [⟨some 2, .mv (.k (.c (.str []))), none⟩,
                      ⟨some 3, .mv (.k (.c (.bool false))), none⟩])
                (.ret))
                (.skip)))
            (.seq (.region
                [⟨some 6, .mv (.k (.c (.int .i64 0))), none⟩])
            (.block 2
              (.loop
                (.seq (.seq (.region
                      [⟨some 28, .mv (.t 6), none⟩,
                        ⟨some 29, .mv (.t 4), none⟩,
                        ⟨some 30, .len false (.t 29), none⟩,
                        ⟨some 31, .bin .lss (.t 28) (.t 30), none⟩])
                  (.cond (.t 31)
                    (.skip)
                    (.exit 2)))
                (.seq (.block 3
                    (.draw
                      [⟨some 34, .mv (.t 4), none⟩,
                        ⟨some 35, .mv (.t 6), none⟩,
                        ⟨some 36, .mv (.t 4), none⟩,
                        ⟨some 37, .mv (.t 6), none⟩,
                        ⟨some 38, .idxSlc 1 (.t 36) (.t 37), none⟩,
                        ⟨some 39, .load1 (.t 38), none⟩,
                        ⟨some 40, .mv (.t 0), none⟩,
                        ⟨some 41, .mv (.t 5), none⟩,
                        ⟨some 42, .idxSlc 1 (.t 40) (.t 41), none⟩,
                        ⟨some 43, .load1 (.t 42), none⟩,
                        ⟨some 44, .mv (.t 6), none⟩,
                        ⟨some 45, .elemStr (.t 43) (.t 44), none⟩,
                        ⟨some 46, .call F_pestleref01_Mixed [.t 39, .t 45], none⟩]
                      [⟨some 47, .idxSlc 1 (.t 34) (.t 35), none⟩,
                        ⟨none, .store 1 (.t 47) (.t 46), none⟩]))
                (.region
                  [⟨some 32, .mv (.t 6), none⟩,
                    ⟨some 33, .bin .add (.t 32) (.k (.c (.int .i64 1))), none⟩,
                    ⟨some 6, .mv (.t 33), none⟩]))))))))
        (.region
          [⟨some 18, .mv (.t 5), none⟩,
            ⟨some 19, .bin .add (.t 18) (.k (.c (.int .i64 1))), none⟩,
            ⟨some 5, .mv (.t 19), none⟩]))))))
  (.seq (.region
      [⟨some 48, .mv (.t 4), none⟩,
        ⟨some 49, .bytesStr (.t 48), none⟩,
        ⟨some 2, .mv (.t 49), none⟩,
        ⟨some 3, .mv (.k (.c (.bool true))), none⟩])
  (.ret))))))
theorem t_pestleref01_Xor : A F_pestleref01_Xor = some c_pestleref01_Xor := by kernel_rfl

noncomputable def c_pestleref01_Words : AFn := AFn.mk 43 [.tmp 4, .tmp 5]
  (.seq (.region
      [⟨some 4, .mv (.k (.c (.snil))), none⟩,
        ⟨some 5, .mv (.k (.c (.bool false))), none⟩])
  (.seq (.seq (.region
        [⟨some 10, .mv (.t 0), none⟩,
          ⟨some 11, .len false (.t 10), none⟩,
          ⟨some 12, .mv (.t 1), none⟩,
          ⟨some 13, .bin .rem (.t 11) (.t 12), none⟩,
          ⟨some 14, .bin .neq (.t 13) (.k (.c (.int .i64 0))), none⟩])
    (.cond (.t 14)
      (.seq (.region
          [⟨some 4, .mv (.k (.c (.snil))), none⟩,
            ⟨some 5, .mv (.k (.c (.bool false))), none⟩])
      (.ret))
      (.skip)))
  (.seq (.region
      [⟨some 6, .mv (.k (.c (.snil))), none⟩])
  (.seq (.seq (.region
        [⟨some 7, .mv (.k (.c (.int .i64 0))), none⟩])
    (.block 0
      (.loop
        (.seq (.seq (.region
              [⟨some 15, .mv (.t 7), none⟩,
                ⟨some 16, .mv (.t 0), none⟩,
                ⟨some 17, .len false (.t 16), none⟩,
                ⟨some 18, .bin .lss (.t 15) (.t 17), none⟩])
          (.cond (.t 18)
            (.skip)
            (.exit 0)))
        (.seq (.block 1
            (.seq (.region
                [⟨some 8, .mv (.k (.c (.int .u64 0))), none⟩])
            (.seq (.seq (.region
                  [⟨some 22, .mv (.t 1), none⟩,
                    ⟨some 23, .bin .sub (.t 22) (.k (.c (.int .i64 1))), none⟩,
                    ⟨some 9, .mv (.t 23), none⟩])
              (.block 2
                (.loop
                  (.seq (.seq (.region
                        [⟨some 24, .mv (.t 9), none⟩,
                          ⟨some 25, .bin .geq (.t 24) (.k (.c (.int .i64 0))), none⟩])
                    (.cond (.t 25)
                      (.skip)
                      (.exit 2)))
                  (.seq (.block 3
                      (.region
                        [⟨some 28, .mv (.t 8), none⟩,
                          ⟨some 29, .bin .mul (.k (.c (.int .u64 256))) (.t 28), none⟩,
                          ⟨some 30, .mv (.t 0), none⟩,
                          ⟨some 31, .mv (.t 7), none⟩,
                          ⟨some 32, .mv (.t 9), none⟩,
                          ⟨some 33, .bin .add (.t 31) (.t 32), none⟩,
                          ⟨some 34, .idxSlc 1 (.t 30) (.t 33), none⟩,
                          ⟨some 35, .load1 (.t 34), none⟩,
                          ⟨some 36, .convInt .u64 (.t 35), none⟩,
                          ⟨some 37, .bin .add (.t 29) (.t 36), none⟩,
                          ⟨some 8, .mv (.t 37), none⟩]))
                  (.region
                    [⟨some 26, .mv (.t 9), none⟩,
                      ⟨some 27, .bin .sub (.t 26) (.k (.c (.int .i64 1))), none⟩,
                      ⟨some 9, .mv (.t 27), none⟩]))))))
            (.region
              [⟨some 38, .mv (.t 6), none⟩,
                ⟨some 39, .mv (.t 8), none⟩,
                ⟨some 40, .buildSlice ([.int .u64 0]) 1 1 [(0, 1, .t 39)], none⟩,
                ⟨some 41, .append ([.int .u64 0]) 8 (.t 38) (.t 40), none⟩,
                ⟨some 6, .mv (.t 41), none⟩]))))
        (.region
          [⟨some 19, .mv (.t 7), none⟩,
            ⟨some 20, .mv (.t 1), none⟩,
            ⟨some 21, .bin .add (.t 19) (.t 20), none⟩,
            ⟨some 7, .mv (.t 21), none⟩]))))))
  (.seq (.region
      [⟨some 42, .mv (.t 6), none⟩,
        ⟨some 4, .mv (.t 42), none⟩,
        ⟨some 5, .mv (.k (.c (.bool true))), none⟩])
  (.ret))))))
theorem t_pestleref01_Words : A F_pestleref01_Words = some c_pestleref01_Words := by kernel_rfl

noncomputable def c_pestleref01_Swapped : AFn := AFn.mk 33 [.tmp 4]
  (.seq (.region
      [⟨some 4, .mv (.k (.c (.snil))), none⟩])
  (.seq (.region
      [⟨some 5, .mv (.k (.c (.snil))), none⟩])
  (.seq (.seq (.region
        [⟨some 6, .mv (.k (.c (.int .i64 0))), none⟩])
    (.block 0
      (.loop
        (.seq (.seq (.region
              [⟨some 8, .mv (.t 6), none⟩,
                ⟨some 9, .mv (.t 1), none⟩,
                ⟨some 10, .bin .add (.t 8) (.t 9), none⟩,
                ⟨some 11, .mv (.t 0), none⟩,
                ⟨some 12, .len false (.t 11), none⟩,
                ⟨some 13, .bin .leq (.t 10) (.t 12), none⟩])
          (.cond (.t 13)
            (.skip)
            (.exit 0)))
        (.seq (.block 1
            (.seq (.region
                [⟨some 17, .mv (.t 1), none⟩,
                  ⟨some 18, .bin .sub (.t 17) (.k (.c (.int .i64 1))), none⟩,
                  ⟨some 7, .mv (.t 18), none⟩])
            (.block 2
              (.loop
                (.seq (.seq (.region
                      [⟨some 19, .mv (.t 7), none⟩,
                        ⟨some 20, .bin .geq (.t 19) (.k (.c (.int .i64 0))), none⟩])
                  (.cond (.t 20)
                    (.skip)
                    (.exit 2)))
                (.seq (.block 3
                    (.region
                      [⟨some 23, .mv (.t 5), none⟩,
                        ⟨some 24, .mv (.t 0), none⟩,
                        ⟨some 25, .mv (.t 6), none⟩,
                        ⟨some 26, .mv (.t 7), none⟩,
                        ⟨some 27, .bin .add (.t 25) (.t 26), none⟩,
                        ⟨some 28, .idxSlc 1 (.t 24) (.t 27), none⟩,
                        ⟨some 29, .load1 (.t 28), none⟩,
                        ⟨some 30, .buildSlice ([.int .u8 0]) 1 1 [(0, 1, .t 29)], none⟩,
                        ⟨some 31, .append ([.int .u8 0]) 1 (.t 23) (.t 30), none⟩,
                        ⟨some 5, .mv (.t 31), none⟩]))
                (.region
                  [⟨some 21, .mv (.t 7), none⟩,
                    ⟨some 22, .bin .sub (.t 21) (.k (.c (.int .i64 1))), none⟩,
                    ⟨some 7, .mv (.t 22), none⟩])))))))
        (.region
          [⟨some 14, .mv (.t 6), none⟩,
            ⟨some 15, .mv (.t 1), none⟩,
            ⟨some 16, .bin .add (.t 14) (.t 15), none⟩,
            ⟨some 6, .mv (.t 16), none⟩]))))))
  (.seq (.region
      [⟨some 32, .mv (.t 5), none⟩,
        ⟨some 4, .mv (.t 32), none⟩])
  (.ret)))))
theorem t_pestleref01_Swapped : A F_pestleref01_Swapped = some c_pestleref01_Swapped := by kernel_rfl

noncomputable def c_pestleref01_Of32 : AFn := AFn.mk 18 [.tmp 2]
  (.seq (.region
      [⟨some 2, .mv (.k (.c (.snil))), none⟩])
  (.seq (.region
      [⟨some 3, .mv (.k (.c (.snil))), none⟩])
  (.seq (.seq (.region
        [⟨some 4, .mv (.k (.c (.int .i64 0))), none⟩])
    (.block 0
      (.loop
        (.seq (.seq (.region
              [⟨some 5, .mv (.t 4), none⟩,
                ⟨some 6, .bin .lss (.t 5) (.k (.c (.int .i64 4))), none⟩])
          (.cond (.t 6)
            (.skip)
            (.exit 0)))
        (.seq (.block 1
            (.seq (.region
                [⟨some 9, .mv (.t 3), none⟩,
                  ⟨some 10, .mv (.t 0), none⟩,
                  ⟨some 11, .bin .rem (.t 10) (.k (.c (.int .u32 256))), none⟩,
                  ⟨some 12, .convInt .u8 (.t 11), none⟩,
                  ⟨some 13, .buildSlice ([.int .u8 0]) 1 1 [(0, 1, .t 12)], none⟩,
                  ⟨some 14, .append ([.int .u8 0]) 1 (.t 9) (.t 13), none⟩,
                  ⟨some 3, .mv (.t 14), none⟩])
            (.region
              [⟨some 15, .mv (.t 0), none⟩,
                ⟨some 16, .bin .quo (.t 15) (.k (.c (.int .u32 256))), none⟩,
                ⟨some 0, .mv (.t 16), none⟩])))
        (.region
          [⟨some 7, .mv (.t 4), none⟩,
            ⟨some 8, .bin .add (.t 7) (.k (.c (.int .i64 1))), none⟩,
            ⟨some 4, .mv (.t 8), none⟩]))))))
  (.seq (.region
      [⟨some 17, .mv (.t 3), none⟩,
        ⟨some 2, .mv (.t 17), none⟩])
  (.ret)))))
theorem t_pestleref01_Of32 : A F_pestleref01_Of32 = some c_pestleref01_Of32 := by kernel_rfl

noncomputable def c_pestleref01_Turned : AFn := AFn.mk 20 [.tmp 2]
  (.seq (.region
      [⟨some 2, .mv (.k (.c (.snil))), none⟩])
  (.seq (.region
      [⟨some 3, .mv (.k (.c (.snil))), none⟩])
  (.seq (.seq (.region
        [⟨some 5, .mv (.t 0), none⟩,
          ⟨some 6, .len false (.t 5), none⟩,
          ⟨some 7, .bin .sub (.t 6) (.k (.c (.int .i64 1))), none⟩,
          ⟨some 4, .mv (.t 7), none⟩])
    (.block 0
      (.loop
        (.seq (.seq (.region
              [⟨some 8, .mv (.t 4), none⟩,
                ⟨some 9, .bin .geq (.t 8) (.k (.c (.int .i64 0))), none⟩])
          (.cond (.t 9)
            (.skip)
            (.exit 0)))
        (.seq (.block 1
            (.region
              [⟨some 12, .mv (.t 3), none⟩,
                ⟨some 13, .mv (.t 0), none⟩,
                ⟨some 14, .mv (.t 4), none⟩,
                ⟨some 15, .idxSlc 1 (.t 13) (.t 14), none⟩,
                ⟨some 16, .load1 (.t 15), none⟩,
                ⟨some 17, .buildSlice ([.int .u8 0]) 1 1 [(0, 1, .t 16)], none⟩,
                ⟨some 18, .append ([.int .u8 0]) 1 (.t 12) (.t 17), none⟩,
                ⟨some 3, .mv (.t 18), none⟩]))
        (.region
          [⟨some 10, .mv (.t 4), none⟩,
            ⟨some 11, .bin .sub (.t 10) (.k (.c (.int .i64 1))), none⟩,
            ⟨some 4, .mv (.t 11), none⟩]))))))
  (.seq (.region
      [⟨some 19, .mv (.t 3), none⟩,
        ⟨some 2, .mv (.t 19), none⟩])
  (.ret)))))
theorem t_pestleref01_Turned : A F_pestleref01_Turned = some c_pestleref01_Turned := by kernel_rfl

noncomputable def c_pestleref01_Of64 : AFn := AFn.mk 18 [.tmp 2]
  (.seq (.region
      [⟨some 2, .mv (.k (.c (.snil))), none⟩])
  (.seq (.region
      [⟨some 3, .mv (.k (.c (.snil))), none⟩])
  (.seq (.seq (.region
        [⟨some 4, .mv (.k (.c (.int .i64 0))), none⟩])
    (.block 0
      (.loop
        (.seq (.seq (.region
              [⟨some 5, .mv (.t 4), none⟩,
                ⟨some 6, .bin .lss (.t 5) (.k (.c (.int .i64 8))), none⟩])
          (.cond (.t 6)
            (.skip)
            (.exit 0)))
        (.seq (.block 1
            (.seq (.region
                [⟨some 9, .mv (.t 3), none⟩,
                  ⟨some 10, .mv (.t 0), none⟩,
                  ⟨some 11, .bin .rem (.t 10) (.k (.c (.int .u64 256))), none⟩,
                  ⟨some 12, .convInt .u8 (.t 11), none⟩,
                  ⟨some 13, .buildSlice ([.int .u8 0]) 1 1 [(0, 1, .t 12)], none⟩,
                  ⟨some 14, .append ([.int .u8 0]) 1 (.t 9) (.t 13), none⟩,
                  ⟨some 3, .mv (.t 14), none⟩])
            (.region
              [⟨some 15, .mv (.t 0), none⟩,
                ⟨some 16, .bin .quo (.t 15) (.k (.c (.int .u64 256))), none⟩,
                ⟨some 0, .mv (.t 16), none⟩])))
        (.region
          [⟨some 7, .mv (.t 4), none⟩,
            ⟨some 8, .bin .add (.t 7) (.k (.c (.int .i64 1))), none⟩,
            ⟨some 4, .mv (.t 8), none⟩]))))))
  (.seq (.region
      [⟨some 17, .mv (.t 3), none⟩,
        ⟨some 2, .mv (.t 17), none⟩])
  (.ret)))))
theorem t_pestleref01_Of64 : A F_pestleref01_Of64 = some c_pestleref01_Of64 := by kernel_rfl

noncomputable def c_pestleref01_Mixed : AFn := AFn.mk 35 [.tmp 4]
  (.seq (.region
      [⟨some 4, .mv (.k (.c (.int .u8 0))), none⟩])
  (.seq (.region
      [⟨some 5, .mv (.k (.c (.int .i64 0))), none⟩])
  (.seq (.seq (.region
        [⟨some 6, .mv (.k (.c (.int .i64 0))), none⟩])
    (.block 0
      (.loop
        (.seq (.seq (.region
              [⟨some 10, .mv (.t 6), none⟩,
                ⟨some 11, .bin .lss (.t 10) (.k (.c (.int .i64 8))), none⟩])
          (.cond (.t 11)
            (.skip)
            (.exit 0)))
        (.seq (.block 1
            (.seq (.region
                [⟨some 14, .mv (.t 6), none⟩,
                  ⟨some 15, .convInt .u64 (.t 14), none⟩,
                  ⟨some 16, .bin .shl (.k (.c (.int .i64 1))) (.t 15), none⟩,
                  ⟨some 7, .mv (.t 16), none⟩])
            (.seq (.region
                [⟨some 17, .mv (.t 0), none⟩,
                  ⟨some 18, .convInt .i64 (.t 17), none⟩,
                  ⟨some 19, .mv (.t 7), none⟩,
                  ⟨some 20, .bin .quo (.t 18) (.t 19), none⟩,
                  ⟨some 21, .bin .rem (.t 20) (.k (.c (.int .i64 2))), none⟩,
                  ⟨some 8, .mv (.t 21), none⟩])
            (.seq (.region
                [⟨some 22, .mv (.t 1), none⟩,
                  ⟨some 23, .convInt .i64 (.t 22), none⟩,
                  ⟨some 24, .mv (.t 7), none⟩,
                  ⟨some 25, .bin .quo (.t 23) (.t 24), none⟩,
                  ⟨some 26, .bin .rem (.t 25) (.k (.c (.int .i64 2))), none⟩,
                  ⟨some 9, .mv (.t 26), none⟩])
            (.seq (.region
                [⟨some 27, .mv (.t 8), none⟩,
                  ⟨some 28, .mv (.t 9), none⟩,
                  ⟨some 29, .bin .neq (.t 27) (.t 28), none⟩])
            (.cond (.t 29)
              (.region
                [⟨some 30, .mv (.t 5), none⟩,
                  ⟨some 31, .mv (.t 7), none⟩,
                  ⟨some 32, .bin .add (.t 30) (.t 31), none⟩,
                  ⟨some 5, .mv (.t 32), none⟩])
              (.skip)))))))
        (.region
          [⟨some 12, .mv (.t 6), none⟩,
            ⟨some 13, .bin .add (.t 12) (.k (.c (.int .i64 1))), none⟩,
            ⟨some 6, .mv (.t 13), none⟩]))))))
  (.seq (.region
      [⟨some 33, .mv (.t 5), none⟩,
        ⟨some 34, .convInt .u8 (.t 33), none⟩,
        ⟨some 4, .mv (.t 34), none⟩])
  (.ret)))))
theorem t_pestleref01_Mixed : A F_pestleref01_Mixed = some c_pestleref01_Mixed := by kernel_rfl
end PK
