/- Package shuffle as code of the abstract machine. -/
import Derived.Test.YtebccciodmlikaaKF
namespace PK
open Go PAbs

noncomputable def c_shuffle_Places : AFn := AFn.mk 37 [.tmp 2, .tmp 3]
  (.seq (.region
      [⟨some 2, .mv (.k (.c (.snil))), none⟩,
        ⟨some 3, .mv (.k (.c (.int .i64 0))), none⟩])
  (.seq (.seq (.region
        [⟨some 6, .mv (.t 0), none⟩,
          ⟨some 7, .bin .lss (.t 6) (.k (.c (.int .i64 1))), none⟩,
          ⟨some 8, .mv (.t 7), none⟩,
          ⟨some 9, .mv (.t 0), some (8, false)⟩,
          ⟨some 10, .bin .gtr (.t 9) (.k (.c (.int .i64 512))), some (8, false)⟩,
          ⟨some 11, .pick (.t 8) (.k (.c (.bool true))) (.t 10), none⟩])
    (.cond (.t 11)
      (.seq (.region
          [⟨some 2, .mv (.k (.c (.snil))), none⟩,
            ⟨some 3, .mv (.k (.c (.int .i64 2))), none⟩])
      (.ret))
      (.skip)))
  (.seq (.region
      [⟨some 12, .mv (.t 0), none⟩,
        ⟨some 13, .bin .mul (.k (.c (.int .i64 2))) (.t 12), none⟩,
        ⟨some 14, .makeSlice ([.int .i64 0]) 8 (.t 13) (.t 13), none⟩,
        ⟨some 4, .mv (.t 14), none⟩])
  (.seq (.seq (.region
        [⟨some 15, .mv (.t 4), none⟩,
          ⟨some 16, .len false (.t 15), none⟩,
          ⟨some 17, .mv (.k (.c (.int .i64 0))), none⟩])
    (.block 0
      (.loop
        (.seq (.region
            [⟨some 18, .bin .lss (.t 17) (.t 16), none⟩])
        (.seq (.cond (.t 18)
            (.skip)
            (.exit 0))
        (.seq (.block 1
            (.seq (.region
                [⟨some 19, .mv (.t 17), none⟩,
                  ⟨some 5, .mv (.t 19), none⟩])
            (.seq (.region
                [⟨some 20, .mv (.t 4), none⟩,
                  ⟨some 21, .mv (.t 5), none⟩,
                  ⟨some 22, .mv (.t 5), none⟩,
                  ⟨some 23, .bin .quo (.t 22) (.k (.c (.int .i64 2))), none⟩,
                  ⟨some 24, .idxSlc 1 (.t 20) (.t 21), none⟩,
                  ⟨none, .store 1 (.t 24) (.t 23), none⟩])
            (.seq (.region
                [⟨some 25, .mv (.t 5), none⟩,
                  ⟨some 26, .bin .rem (.t 25) (.k (.c (.int .i64 2))), none⟩,
                  ⟨some 27, .bin .eql (.t 26) (.k (.c (.int .i64 1))), none⟩])
            (.cond (.t 27)
              (.region
                [⟨some 28, .mv (.t 4), none⟩,
                  ⟨some 29, .mv (.t 5), none⟩,
                  ⟨some 30, .idxSlc 1 (.t 28) (.t 29), none⟩,
                  ⟨some 31, .load1 (.t 30), none⟩,
                  ⟨some 32, .mv (.t 0), none⟩,
                  ⟨some 33, .bin .add (.t 31) (.t 32), none⟩,
                  ⟨some 34, .idxSlc 1 (.t 28) (.t 29), none⟩,
                  ⟨none, .store 1 (.t 34) (.t 33), none⟩])
              (.skip))))))
        (.region
          [⟨some 35, .bin .add (.t 17) (.k (.c (.int .i64 1))), none⟩,
            ⟨some 17, .mv (.t 35), none⟩])))))))
  (.seq (.region
      [⟨some 36, .mv (.t 4), none⟩,
        ⟨some 2, .mv (.t 36), none⟩,
        ⟨some 3, .mv (.k (.c (.int .i64 0))), none⟩])
  (.ret))))))
theorem t_shuffle_Places : A F_shuffle_Places = some c_shuffle_Places := by kernel_rfl

noncomputable def c_shuffle_Mix : AFn := AFn.mk 68 [.tmp 4, .tmp 5]
  (.seq (.region
      [⟨some 4, .mv (.k (.c (.snil))), none⟩,
        ⟨some 5, .mv (.k (.c (.int .i64 0))), none⟩])
  (.seq (.seq (.region
        [⟨some 13, .mv (.t 0), none⟩,
          ⟨some 14, .mv (.t 1), none⟩,
          ⟨some 15, .call F_shuffle_Check [.t 13, .t 14], none⟩,
          ⟨some 6, .mv (.t 15), none⟩])
    (.seq (.region
        [⟨some 16, .mv (.t 6), none⟩,
          ⟨some 17, .bin .neq (.t 16) (.k (.c (.int .i64 0))), none⟩])
    (.cond (.t 17)
      (.seq (.region
          [⟨some 18, .mv (.t 6), none⟩,
            ⟨some 4, .mv (.k (.c (.snil))), none⟩,
            ⟨some 5, .mv (.t 18), none⟩])
      (.ret))
      (.skip))))
  (.seq (.region
      [⟨some 20, .mv (.t 0), none⟩,
        ⟨some 21, .call F_shuffle_Places [.t 20], none⟩,
        ⟨some 19, .mv (.t 21), none⟩,
        ⟨some 22, .extract (.t 19) 0, none⟩,
        ⟨some 23, .extract (.t 19) 1, none⟩,
        ⟨some 7, .mv (.t 22), none⟩,
        ⟨some 8, .mv (.t 23), none⟩])
  (.seq (.region
      [⟨some 24, .mv (.t 1), none⟩,
        ⟨some 25, .len false (.t 24), none⟩,
        ⟨some 26, .makeSlice ([.int .u32 0]) 4 (.t 25) (.t 25), none⟩,
        ⟨some 9, .mv (.t 26), none⟩])
  (.seq (.region
      [⟨some 27, .mv (.t 1), none⟩,
        ⟨some 28, .mv (.t 1), none⟩,
        ⟨some 29, .len false (.t 28), none⟩,
        ⟨some 30, .bin .sub (.t 29) (.k (.c (.int .i64 16))), none⟩,
        ⟨some 31, .sliceS 1 (.t 27) (some (.t 30)) none, none⟩,
        ⟨some 32, .arrPtr 16 (.t 31), none⟩,
        ⟨some 33, .loadN 16 (.t 32), none⟩,
        ⟨some 10, .alloc (rep 16 (.int .u32 0)), none⟩,
        ⟨none, .store 16 (.t 10) (.t 33), none⟩])
  (.seq (.seq (.region
        [⟨some 34, .mv (.t 0), none⟩,
          ⟨some 35, .bin .mul (.k (.c (.int .i64 2))) (.t 34), none⟩,
          ⟨some 36, .mv (.k (.c (.int .i64 0))), none⟩])
    (.block 0
      (.loop
        (.seq (.region
            [⟨some 37, .bin .lss (.t 36) (.t 35), none⟩])
        (.seq (.cond (.t 37)
            (.skip)
            (.exit 0))
        (.seq (.block 1
            (.seq (.region
                [⟨some 38, .mv (.t 36), none⟩,
                  ⟨some 11, .mv (.t 38), none⟩])
            (.seq (.seq (.region
                  [⟨some 39, .mv (.k (.c (.int .i64 0))), none⟩])
              (.block 2
                (.loop
                  (.seq (.region
                      [⟨some 40, .bin .lss (.t 39) (.k (.c (.int .i64 16))), none⟩])
                  (.seq (.cond (.t 40)
                      (.skip)
                      (.exit 2))
                  (.seq (.block 3
                      (.seq (.region
                          [⟨some 41, .mv (.t 39), none⟩,
                            ⟨some 12, .mv (.t 41), none⟩])
                      (.draw
                        [⟨some 42, .mv (.t 12), none⟩,
                          ⟨some 43, .idxArr 16 1 (.t 10) (.t 42), none⟩,
                          ⟨some 44, .load1 (.t 43), none⟩,
                          ⟨some 45, .mv (.t 1), none⟩,
                          ⟨some 46, .mv (.t 11), none⟩,
                          ⟨some 47, .bin .mul (.k (.c (.int .i64 16))) (.t 46), none⟩,
                          ⟨some 48, .mv (.t 12), none⟩,
                          ⟨some 49, .bin .add (.t 47) (.t 48), none⟩,
                          ⟨some 50, .idxSlc 1 (.t 45) (.t 49), none⟩,
                          ⟨some 51, .load1 (.t 50), none⟩]
                        [⟨some 52, .bin .xor (.t 44) (.t 51), none⟩,
                          ⟨some 53, .idxArr 16 1 (.t 10) (.t 42), none⟩,
                          ⟨none, .store 1 (.t 53) (.t 52), none⟩])))
                  (.region
                    [⟨some 54, .bin .add (.t 39) (.k (.c (.int .i64 1))), none⟩,
                      ⟨some 39, .mv (.t 54), none⟩])))))))
            (.seq (.region
                [⟨some 55, .loadN 16 (.t 10), none⟩,
                  ⟨some 56, .call F_salsa_Eight [.t 55], none⟩,
                  ⟨none, .store 16 (.t 10) (.t 56), none⟩])
            (.draw
              [⟨some 57, .mv (.t 9), none⟩,
                ⟨some 58, .mv (.t 7), none⟩,
                ⟨some 59, .mv (.t 11), none⟩,
                ⟨some 60, .idxSlc 1 (.t 58) (.t 59), none⟩,
                ⟨some 61, .load1 (.t 60), none⟩,
                ⟨some 62, .bin .mul (.k (.c (.int .i64 16))) (.t 61), none⟩,
                ⟨some 63, .sliceS 1 (.t 57) (some (.t 62)) none, none⟩,
                ⟨some 64, .sliceArr 16 1 (.t 10) none none, none⟩]
              [⟨some 65, .copy 1 (.t 63) (.t 64), none⟩])))))
        (.region
          [⟨some 66, .bin .add (.t 36) (.k (.c (.int .i64 1))), none⟩,
            ⟨some 36, .mv (.t 66), none⟩])))))))
  (.seq (.region
      [⟨some 67, .mv (.t 9), none⟩,
        ⟨some 4, .mv (.t 67), none⟩,
        ⟨some 5, .mv (.k (.c (.int .i64 0))), none⟩])
  (.ret))))))))
theorem t_shuffle_Mix : A F_shuffle_Mix = some c_shuffle_Mix := by kernel_rfl

noncomputable def c_shuffle_Integer : AFn := AFn.mk 31 [.tmp 4, .tmp 5]
  (.seq (.region
      [⟨some 4, .mv (.k (.c (.int .u64 0))), none⟩,
        ⟨some 5, .mv (.k (.c (.int .i64 0))), none⟩])
  (.seq (.seq (.region
        [⟨some 8, .mv (.t 0), none⟩,
          ⟨some 9, .mv (.t 1), none⟩,
          ⟨some 10, .call F_shuffle_Check [.t 8, .t 9], none⟩,
          ⟨some 6, .mv (.t 10), none⟩])
    (.seq (.region
        [⟨some 11, .mv (.t 6), none⟩,
          ⟨some 12, .bin .neq (.t 11) (.k (.c (.int .i64 0))), none⟩])
    (.cond (.t 12)
      (.seq (.region
          [⟨some 13, .mv (.t 6), none⟩,
            ⟨some 4, .mv (.k (.c (.int .u64 0))), none⟩,
            ⟨some 5, .mv (.t 13), none⟩])
      (.ret))
      (.skip))))
  (.seq (.region
      [⟨some 14, .mv (.t 0), none⟩,
        ⟨some 15, .bin .mul (.k (.c (.int .i64 2))) (.t 14), none⟩,
        ⟨some 16, .bin .sub (.t 15) (.k (.c (.int .i64 1))), none⟩,
        ⟨some 17, .bin .mul (.k (.c (.int .i64 16))) (.t 16), none⟩,
        ⟨some 7, .mv (.t 17), none⟩])
  (.seq (.draw
      [⟨some 18, .mv (.t 1), none⟩,
        ⟨some 19, .mv (.t 7), none⟩,
        ⟨some 20, .idxSlc 1 (.t 18) (.t 19), none⟩,
        ⟨some 21, .load1 (.t 20), none⟩,
        ⟨some 22, .convInt .u64 (.t 21), none⟩,
        ⟨some 23, .mv (.t 1), none⟩,
        ⟨some 24, .mv (.t 7), none⟩,
        ⟨some 25, .bin .add (.t 24) (.k (.c (.int .i64 1))), none⟩,
        ⟨some 26, .idxSlc 1 (.t 23) (.t 25), none⟩,
        ⟨some 27, .load1 (.t 26), none⟩,
        ⟨some 28, .convInt .u64 (.t 27), none⟩,
        ⟨some 29, .bin .shl (.t 28) (.k (.c (.int .u64 32))), none⟩]
      [⟨some 30, .bin .or (.t 22) (.t 29), none⟩,
        ⟨some 4, .mv (.t 30), none⟩,
        ⟨some 5, .mv (.k (.c (.int .i64 0))), none⟩])
  (.ret)))))
theorem t_shuffle_Integer : A F_shuffle_Integer = some c_shuffle_Integer := by kernel_rfl

noncomputable def c_shuffle_Check : AFn := AFn.mk 18 [.tmp 4]
  (.seq (.region
      [⟨some 4, .mv (.k (.c (.int .i64 0))), none⟩])
  (.seq (.block 0
      (.seq (.region
          [⟨some 6, .mv (.t 0), none⟩,
            ⟨some 7, .bin .lss (.t 6) (.k (.c (.int .i64 1))), none⟩,
            ⟨some 8, .mv (.t 7), none⟩,
            ⟨some 9, .mv (.t 0), some (8, false)⟩,
            ⟨some 10, .bin .gtr (.t 9) (.k (.c (.int .i64 512))), some (8, false)⟩,
            ⟨some 11, .pick (.t 8) (.k (.c (.bool true))) (.t 10), none⟩,
            ⟨some 5, .mv (.t 11), none⟩])
      (.cond (.t 5)
        (.seq (.region
            [⟨some 4, .mv (.k (.c (.int .i64 2))), none⟩])
        (.ret))
        (.seq (.region
            [⟨some 13, .mv (.t 1), none⟩,
              ⟨some 14, .len false (.t 13), none⟩,
              ⟨some 15, .mv (.t 0), none⟩,
              ⟨some 16, .bin .mul (.k (.c (.int .i64 32))) (.t 15), none⟩,
              ⟨some 17, .bin .neq (.t 14) (.t 16), none⟩,
              ⟨some 12, .mv (.t 17), none⟩])
        (.cond (.t 12)
          (.seq (.region
              [⟨some 4, .mv (.k (.c (.int .i64 9))), none⟩])
          (.ret))
          (.skip))))))
  (.seq (.region
      [⟨some 4, .mv (.k (.c (.int .i64 0))), none⟩])
  (.ret))))
theorem t_shuffle_Check : A F_shuffle_Check = some c_shuffle_Check := by kernel_rfl
end PK
