/- Package pestleref12 as code of the abstract machine. -/
import Derived.Test.YtebccciodmlikaaKF
namespace PK
open Go PAbs

noncomputable def c_pestleref12_Quarter : AFn := AFn.mk 44 [.cellN 2 4]
  (.seq (.region
      [⟨some 1, .box (.t 0), none⟩,
        ⟨some 2, .alloc (rep 4 (.int .u32 0)), none⟩])
  (.seq (.draw
      [⟨some 3, .idxArr 4 1 (.t 1) (.k (.c (.int .i64 1))), none⟩,
        ⟨some 4, .load1 (.t 3), none⟩,
        ⟨some 5, .idxArr 4 1 (.t 1) (.k (.c (.int .i64 0))), none⟩,
        ⟨some 6, .load1 (.t 5), none⟩,
        ⟨some 7, .idxArr 4 1 (.t 1) (.k (.c (.int .i64 3))), none⟩,
        ⟨some 8, .load1 (.t 7), none⟩,
        ⟨some 9, .bin .add (.t 6) (.t 8), none⟩,
        ⟨some 10, .call F_pestleref01_Left [.t 9, .k (.c (.int .i64 7))], none⟩]
      [⟨some 11, .bin .xor (.t 4) (.t 10), none⟩,
        ⟨some 12, .idxArr 4 1 (.t 1) (.k (.c (.int .i64 1))), none⟩,
        ⟨none, .store 1 (.t 12) (.t 11), none⟩])
  (.seq (.draw
      [⟨some 13, .idxArr 4 1 (.t 1) (.k (.c (.int .i64 2))), none⟩,
        ⟨some 14, .load1 (.t 13), none⟩,
        ⟨some 15, .idxArr 4 1 (.t 1) (.k (.c (.int .i64 1))), none⟩,
        ⟨some 16, .load1 (.t 15), none⟩,
        ⟨some 17, .idxArr 4 1 (.t 1) (.k (.c (.int .i64 0))), none⟩,
        ⟨some 18, .load1 (.t 17), none⟩,
        ⟨some 19, .bin .add (.t 16) (.t 18), none⟩,
        ⟨some 20, .call F_pestleref01_Left [.t 19, .k (.c (.int .i64 9))], none⟩]
      [⟨some 21, .bin .xor (.t 14) (.t 20), none⟩,
        ⟨some 22, .idxArr 4 1 (.t 1) (.k (.c (.int .i64 2))), none⟩,
        ⟨none, .store 1 (.t 22) (.t 21), none⟩])
  (.seq (.draw
      [⟨some 23, .idxArr 4 1 (.t 1) (.k (.c (.int .i64 3))), none⟩,
        ⟨some 24, .load1 (.t 23), none⟩,
        ⟨some 25, .idxArr 4 1 (.t 1) (.k (.c (.int .i64 2))), none⟩,
        ⟨some 26, .load1 (.t 25), none⟩,
        ⟨some 27, .idxArr 4 1 (.t 1) (.k (.c (.int .i64 1))), none⟩,
        ⟨some 28, .load1 (.t 27), none⟩,
        ⟨some 29, .bin .add (.t 26) (.t 28), none⟩,
        ⟨some 30, .call F_pestleref01_Left [.t 29, .k (.c (.int .i64 13))], none⟩]
      [⟨some 31, .bin .xor (.t 24) (.t 30), none⟩,
        ⟨some 32, .idxArr 4 1 (.t 1) (.k (.c (.int .i64 3))), none⟩,
        ⟨none, .store 1 (.t 32) (.t 31), none⟩])
  (.seq (.draw
      [⟨some 33, .idxArr 4 1 (.t 1) (.k (.c (.int .i64 0))), none⟩,
        ⟨some 34, .load1 (.t 33), none⟩,
        ⟨some 35, .idxArr 4 1 (.t 1) (.k (.c (.int .i64 3))), none⟩,
        ⟨some 36, .load1 (.t 35), none⟩,
        ⟨some 37, .idxArr 4 1 (.t 1) (.k (.c (.int .i64 2))), none⟩,
        ⟨some 38, .load1 (.t 37), none⟩,
        ⟨some 39, .bin .add (.t 36) (.t 38), none⟩,
        ⟨some 40, .call F_pestleref01_Left [.t 39, .k (.c (.int .i64 18))], none⟩]
      [⟨some 41, .bin .xor (.t 34) (.t 40), none⟩,
        ⟨some 42, .idxArr 4 1 (.t 1) (.k (.c (.int .i64 0))), none⟩,
        ⟨none, .store 1 (.t 42) (.t 41), none⟩])
  (.seq (.region
      [⟨some 43, .loadN 4 (.t 1), none⟩,
        ⟨none, .store 4 (.t 2) (.t 43), none⟩])
  (.ret)))))))
theorem t_pestleref12_Quarter : A F_pestleref12_Quarter = some c_pestleref12_Quarter := by kernel_rfl

noncomputable def c_pestleref12_Undone : AFn := AFn.mk 44 [.cellN 2 4]
  (.seq (.region
      [⟨some 1, .box (.t 0), none⟩,
        ⟨some 2, .alloc (rep 4 (.int .u32 0)), none⟩])
  (.seq (.draw
      [⟨some 3, .idxArr 4 1 (.t 1) (.k (.c (.int .i64 0))), none⟩,
        ⟨some 4, .load1 (.t 3), none⟩,
        ⟨some 5, .idxArr 4 1 (.t 1) (.k (.c (.int .i64 3))), none⟩,
        ⟨some 6, .load1 (.t 5), none⟩,
        ⟨some 7, .idxArr 4 1 (.t 1) (.k (.c (.int .i64 2))), none⟩,
        ⟨some 8, .load1 (.t 7), none⟩,
        ⟨some 9, .bin .add (.t 6) (.t 8), none⟩,
        ⟨some 10, .call F_pestleref01_Left [.t 9, .k (.c (.int .i64 18))], none⟩]
      [⟨some 11, .bin .xor (.t 4) (.t 10), none⟩,
        ⟨some 12, .idxArr 4 1 (.t 1) (.k (.c (.int .i64 0))), none⟩,
        ⟨none, .store 1 (.t 12) (.t 11), none⟩])
  (.seq (.draw
      [⟨some 13, .idxArr 4 1 (.t 1) (.k (.c (.int .i64 3))), none⟩,
        ⟨some 14, .load1 (.t 13), none⟩,
        ⟨some 15, .idxArr 4 1 (.t 1) (.k (.c (.int .i64 2))), none⟩,
        ⟨some 16, .load1 (.t 15), none⟩,
        ⟨some 17, .idxArr 4 1 (.t 1) (.k (.c (.int .i64 1))), none⟩,
        ⟨some 18, .load1 (.t 17), none⟩,
        ⟨some 19, .bin .add (.t 16) (.t 18), none⟩,
        ⟨some 20, .call F_pestleref01_Left [.t 19, .k (.c (.int .i64 13))], none⟩]
      [⟨some 21, .bin .xor (.t 14) (.t 20), none⟩,
        ⟨some 22, .idxArr 4 1 (.t 1) (.k (.c (.int .i64 3))), none⟩,
        ⟨none, .store 1 (.t 22) (.t 21), none⟩])
  (.seq (.draw
      [⟨some 23, .idxArr 4 1 (.t 1) (.k (.c (.int .i64 2))), none⟩,
        ⟨some 24, .load1 (.t 23), none⟩,
        ⟨some 25, .idxArr 4 1 (.t 1) (.k (.c (.int .i64 1))), none⟩,
        ⟨some 26, .load1 (.t 25), none⟩,
        ⟨some 27, .idxArr 4 1 (.t 1) (.k (.c (.int .i64 0))), none⟩,
        ⟨some 28, .load1 (.t 27), none⟩,
        ⟨some 29, .bin .add (.t 26) (.t 28), none⟩,
        ⟨some 30, .call F_pestleref01_Left [.t 29, .k (.c (.int .i64 9))], none⟩]
      [⟨some 31, .bin .xor (.t 24) (.t 30), none⟩,
        ⟨some 32, .idxArr 4 1 (.t 1) (.k (.c (.int .i64 2))), none⟩,
        ⟨none, .store 1 (.t 32) (.t 31), none⟩])
  (.seq (.draw
      [⟨some 33, .idxArr 4 1 (.t 1) (.k (.c (.int .i64 1))), none⟩,
        ⟨some 34, .load1 (.t 33), none⟩,
        ⟨some 35, .idxArr 4 1 (.t 1) (.k (.c (.int .i64 0))), none⟩,
        ⟨some 36, .load1 (.t 35), none⟩,
        ⟨some 37, .idxArr 4 1 (.t 1) (.k (.c (.int .i64 3))), none⟩,
        ⟨some 38, .load1 (.t 37), none⟩,
        ⟨some 39, .bin .add (.t 36) (.t 38), none⟩,
        ⟨some 40, .call F_pestleref01_Left [.t 39, .k (.c (.int .i64 7))], none⟩]
      [⟨some 41, .bin .xor (.t 34) (.t 40), none⟩,
        ⟨some 42, .idxArr 4 1 (.t 1) (.k (.c (.int .i64 1))), none⟩,
        ⟨none, .store 1 (.t 42) (.t 41), none⟩])
  (.seq (.region
      [⟨some 43, .loadN 4 (.t 1), none⟩,
        ⟨none, .store 4 (.t 2) (.t 43), none⟩])
  (.ret)))))))
theorem t_pestleref12_Undone : A F_pestleref12_Undone = some c_pestleref12_Undone := by kernel_rfl

noncomputable def c_pestleref12_Core : AFn := AFn.mk 31 [.cellN 4 16]
  (.seq (.region
      [⟨some 2, .box (.t 0), none⟩,
        ⟨some 4, .alloc (rep 16 (.int .u32 0)), none⟩])
  (.seq (.region
      [⟨some 8, .loadN 16 (.t 2), none⟩,
        ⟨some 5, .alloc (rep 16 (.int .u32 0)), none⟩,
        ⟨none, .store 16 (.t 5) (.t 8), none⟩])
  (.seq (.seq (.region
        [⟨some 6, .mv (.k (.c (.int .i64 0))), none⟩])
    (.block 0
      (.loop
        (.seq (.seq (.region
              [⟨some 9, .mv (.t 6), none⟩,
                ⟨some 10, .mv (.t 1), none⟩,
                ⟨some 11, .bin .lss (.t 9) (.t 10), none⟩])
          (.cond (.t 11)
            (.skip)
            (.exit 0)))
        (.seq (.block 1
            (.region
              [⟨some 14, .loadN 16 (.t 5), none⟩,
                ⟨some 15, .call F_pestleref12_Half [.t 14, .k (.c (.bool false))], none⟩,
                ⟨some 16, .call F_pestleref12_Half [.t 15, .k (.c (.bool true))], none⟩,
                ⟨none, .store 16 (.t 5) (.t 16), none⟩]))
        (.region
          [⟨some 12, .mv (.t 6), none⟩,
            ⟨some 13, .bin .add (.t 12) (.k (.c (.int .i64 1))), none⟩,
            ⟨some 6, .mv (.t 13), none⟩]))))))
  (.seq (.seq (.region
        [⟨some 7, .mv (.k (.c (.int .i64 0))), none⟩])
    (.block 2
      (.loop
        (.seq (.seq (.region
              [⟨some 17, .mv (.t 7), none⟩,
                ⟨some 18, .bin .lss (.t 17) (.k (.c (.int .i64 16))), none⟩])
          (.cond (.t 18)
            (.skip)
            (.exit 2)))
        (.seq (.block 3
            (.draw
              [⟨some 21, .mv (.t 7), none⟩,
                ⟨some 22, .mv (.t 7), none⟩,
                ⟨some 23, .idxArr 16 1 (.t 5) (.t 22), none⟩,
                ⟨some 24, .load1 (.t 23), none⟩,
                ⟨some 25, .mv (.t 7), none⟩,
                ⟨some 26, .idxArr 16 1 (.t 2) (.t 25), none⟩,
                ⟨some 27, .load1 (.t 26), none⟩,
                ⟨some 28, .bin .add (.t 24) (.t 27), none⟩]
              [⟨some 29, .idxArr 16 1 (.t 5) (.t 21), none⟩,
                ⟨none, .store 1 (.t 29) (.t 28), none⟩]))
        (.region
          [⟨some 19, .mv (.t 7), none⟩,
            ⟨some 20, .bin .add (.t 19) (.k (.c (.int .i64 1))), none⟩,
            ⟨some 7, .mv (.t 20), none⟩]))))))
  (.seq (.region
      [⟨some 30, .loadN 16 (.t 5), none⟩,
        ⟨none, .store 16 (.t 4) (.t 30), none⟩])
  (.ret))))))
theorem t_pestleref12_Core : A F_pestleref12_Core = some c_pestleref12_Core := by kernel_rfl

noncomputable def c_pestleref12_Half : AFn := AFn.mk 58 [.cellN 4 16]
  (.seq (.region
      [⟨some 2, .box (.t 0), none⟩,
        ⟨some 4, .alloc (rep 16 (.int .u32 0)), none⟩])
  (.seq (.seq (.region
        [⟨some 5, .mv (.k (.c (.int .i64 0))), none⟩])
    (.block 0
      (.loop
        (.seq (.seq (.region
              [⟨some 10, .mv (.t 5), none⟩,
                ⟨some 11, .bin .lss (.t 10) (.k (.c (.int .i64 4))), none⟩])
          (.cond (.t 11)
            (.skip)
            (.exit 0)))
        (.seq (.block 1
            (.seq (.region
                [⟨some 6, .alloc (rep 4 (.int .i64 0)), none⟩])
            (.seq (.region
                [⟨some 7, .alloc (rep 4 (.int .u32 0)), none⟩])
            (.seq (.seq (.region
                  [⟨some 8, .mv (.k (.c (.int .i64 0))), none⟩])
              (.block 2
                (.loop
                  (.seq (.seq (.region
                        [⟨some 14, .mv (.t 8), none⟩,
                          ⟨some 15, .bin .lss (.t 14) (.k (.c (.int .i64 4))), none⟩])
                    (.cond (.t 15)
                      (.skip)
                      (.exit 2)))
                  (.seq (.block 3
                      (.seq (.region
                          [⟨some 18, .mv (.t 8), none⟩,
                            ⟨some 19, .mv (.t 5), none⟩,
                            ⟨some 20, .mv (.t 8), none⟩,
                            ⟨some 21, .bin .add (.t 19) (.t 20), none⟩,
                            ⟨some 22, .bin .rem (.t 21) (.k (.c (.int .i64 4))), none⟩,
                            ⟨some 23, .bin .mul (.k (.c (.int .i64 4))) (.t 22), none⟩,
                            ⟨some 24, .mv (.t 5), none⟩,
                            ⟨some 25, .bin .add (.t 23) (.t 24), none⟩,
                            ⟨some 26, .idxArr 4 1 (.t 6) (.t 18), none⟩,
                            ⟨none, .store 1 (.t 26) (.t 25), none⟩])
                      (.seq (.seq (.region
                            [⟨some 27, .mv (.t 1), none⟩])
                        (.cond (.t 27)
                          (.region
                            [⟨some 28, .mv (.t 8), none⟩,
                              ⟨some 29, .mv (.t 5), none⟩,
                              ⟨some 30, .bin .mul (.k (.c (.int .i64 4))) (.t 29), none⟩,
                              ⟨some 31, .mv (.t 5), none⟩,
                              ⟨some 32, .mv (.t 8), none⟩,
                              ⟨some 33, .bin .add (.t 31) (.t 32), none⟩,
                              ⟨some 34, .bin .rem (.t 33) (.k (.c (.int .i64 4))), none⟩,
                              ⟨some 35, .bin .add (.t 30) (.t 34), none⟩,
                              ⟨some 36, .idxArr 4 1 (.t 6) (.t 28), none⟩,
                              ⟨none, .store 1 (.t 36) (.t 35), none⟩])
                          (.skip)))
                      (.region
                        [⟨some 37, .mv (.t 8), none⟩,
                          ⟨some 38, .mv (.t 8), none⟩,
                          ⟨some 39, .idxArr 4 1 (.t 6) (.t 38), none⟩,
                          ⟨some 40, .load1 (.t 39), none⟩,
                          ⟨some 41, .idxArr 16 1 (.t 2) (.t 40), none⟩,
                          ⟨some 42, .load1 (.t 41), none⟩,
                          ⟨some 43, .idxArr 4 1 (.t 7) (.t 37), none⟩,
                          ⟨none, .store 1 (.t 43) (.t 42), none⟩]))))
                  (.region
                    [⟨some 16, .mv (.t 8), none⟩,
                      ⟨some 17, .bin .add (.t 16) (.k (.c (.int .i64 1))), none⟩,
                      ⟨some 8, .mv (.t 17), none⟩]))))))
            (.seq (.region
                [⟨some 44, .loadN 4 (.t 7), none⟩,
                  ⟨some 45, .call F_pestleref12_Quarter [.t 44], none⟩,
                  ⟨none, .store 4 (.t 7) (.t 45), none⟩])
            (.seq (.region
                [⟨some 9, .mv (.k (.c (.int .i64 0))), none⟩])
            (.block 4
              (.loop
                (.seq (.seq (.region
                      [⟨some 46, .mv (.t 9), none⟩,
                        ⟨some 47, .bin .lss (.t 46) (.k (.c (.int .i64 4))), none⟩])
                  (.cond (.t 47)
                    (.skip)
                    (.exit 4)))
                (.seq (.block 5
                    (.draw
                      [⟨some 50, .mv (.t 9), none⟩,
                        ⟨some 51, .idxArr 4 1 (.t 6) (.t 50), none⟩,
                        ⟨some 52, .load1 (.t 51), none⟩,
                        ⟨some 53, .mv (.t 9), none⟩,
                        ⟨some 54, .idxArr 4 1 (.t 7) (.t 53), none⟩,
                        ⟨some 55, .load1 (.t 54), none⟩]
                      [⟨some 56, .idxArr 16 1 (.t 2) (.t 52), none⟩,
                        ⟨none, .store 1 (.t 56) (.t 55), none⟩]))
                (.region
                  [⟨some 48, .mv (.t 9), none⟩,
                    ⟨some 49, .bin .add (.t 48) (.k (.c (.int .i64 1))), none⟩,
                    ⟨some 9, .mv (.t 49), none⟩])))))))))))
        (.region
          [⟨some 12, .mv (.t 5), none⟩,
            ⟨some 13, .bin .add (.t 12) (.k (.c (.int .i64 1))), none⟩,
            ⟨some 5, .mv (.t 13), none⟩]))))))
  (.seq (.region
      [⟨some 57, .loadN 16 (.t 2), none⟩,
        ⟨none, .store 16 (.t 4) (.t 57), none⟩])
  (.ret))))
theorem t_pestleref12_Half : A F_pestleref12_Half = some c_pestleref12_Half := by kernel_rfl
end PK
