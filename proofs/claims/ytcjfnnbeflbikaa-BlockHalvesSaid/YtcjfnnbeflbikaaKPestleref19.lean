/- Package pestleref19 as code of the abstract machine. -/
import Derived.Test.YtcjfnnbeflbikaaKF
namespace PK
open Go PAbs

noncomputable def c_pestleref19_Half : AFn := AFn.mk 25 [.tmp 4]
  (.seq (.region
      [⟨some 2, .box (.t 0), none⟩,
        ⟨some 4, .mv (.k (.c (.int .u32 0))), none⟩])
  (.seq (.seq (.region
        [⟨some 6, .mv (.t 1), none⟩,
          ⟨some 7, .bin .lss (.t 6) (.k (.c (.int .i64 0))), none⟩,
          ⟨some 8, .mv (.t 7), none⟩,
          ⟨some 9, .mv (.t 1), some (8, false)⟩,
          ⟨some 10, .bin .gtr (.t 9) (.k (.c (.int .i64 255))), some (8, false)⟩,
          ⟨some 11, .pick (.t 8) (.k (.c (.bool true))) (.t 10), none⟩])
    (.cond (.t 11)
      (.seq (.region
          [⟨some 4, .mv (.k (.c (.int .u32 0))), none⟩])
      (.ret))
      (.skip)))
  (.seq (.region
      [⟨some 12, .mv (.t 1), none⟩,
        ⟨some 13, .bin .quo (.t 12) (.k (.c (.int .i64 2))), none⟩,
        ⟨some 14, .idxArr 128 1 (.t 2) (.t 13), none⟩,
        ⟨some 15, .load1 (.t 14), none⟩,
        ⟨some 5, .mv (.t 15), none⟩])
  (.seq (.seq (.region
        [⟨some 16, .mv (.t 1), none⟩,
          ⟨some 17, .bin .rem (.t 16) (.k (.c (.int .i64 2))), none⟩,
          ⟨some 18, .bin .eql (.t 17) (.k (.c (.int .i64 0))), none⟩])
    (.cond (.t 18)
      (.seq (.region
          [⟨some 19, .mv (.t 5), none⟩,
            ⟨some 20, .bin .rem (.t 19) (.k (.c (.int .u64 4294967296))), none⟩,
            ⟨some 21, .convInt .u32 (.t 20), none⟩,
            ⟨some 4, .mv (.t 21), none⟩])
      (.ret))
      (.skip)))
  (.seq (.region
      [⟨some 22, .mv (.t 5), none⟩,
        ⟨some 23, .bin .quo (.t 22) (.k (.c (.int .u64 4294967296))), none⟩,
        ⟨some 24, .convInt .u32 (.t 23), none⟩,
        ⟨some 4, .mv (.t 24), none⟩])
  (.ret))))))
theorem t_pestleref19_Half : A F_pestleref19_Half = some c_pestleref19_Half := by kernel_rfl

noncomputable def c_pestleref19_Xor : AFn := AFn.mk 29 [.cellN 2 128]
  (.seq (.region
      [⟨some 2, .alloc (rep 128 (.int .u64 0)), none⟩])
  (.seq (.region
      [⟨some 3, .alloc (rep 128 (.int .u64 0)), none⟩])
  (.seq (.seq (.region
        [⟨some 4, .mv (.k (.c (.int .i64 0))), none⟩])
    (.block 0
      (.loop
        (.seq (.seq (.region
              [⟨some 6, .mv (.t 4), none⟩,
                ⟨some 7, .bin .lss (.t 6) (.k (.c (.int .i64 128))), none⟩])
          (.cond (.t 7)
            (.skip)
            (.exit 0)))
        (.seq (.block 1
            (.seq (.region
                [⟨some 5, .mv (.k (.c (.int .i64 0))), none⟩])
            (.block 2
              (.loop
                (.seq (.seq (.region
                      [⟨some 10, .mv (.t 5), none⟩,
                        ⟨some 11, .mv (.t 0), none⟩,
                        ⟨some 12, .len false (.t 11), none⟩,
                        ⟨some 13, .bin .lss (.t 10) (.t 12), none⟩])
                  (.cond (.t 13)
                    (.skip)
                    (.exit 2)))
                (.seq (.block 3
                    (.draw
                      [⟨some 16, .mv (.t 4), none⟩,
                        ⟨some 17, .mv (.t 4), none⟩,
                        ⟨some 18, .idxArr 128 1 (.t 3) (.t 17), none⟩,
                        ⟨some 19, .load1 (.t 18), none⟩,
                        ⟨some 20, .mv (.t 0), none⟩,
                        ⟨some 21, .mv (.t 5), none⟩,
                        ⟨some 22, .mv (.t 4), none⟩,
                        ⟨some 23, .idxSlc 128 (.t 20) (.t 21), none⟩,
                        ⟨some 24, .idxArr 128 1 (.t 23) (.t 22), none⟩,
                        ⟨some 25, .load1 (.t 24), none⟩,
                        ⟨some 26, .bin .xor (.t 19) (.t 25), none⟩]
                      [⟨some 27, .idxArr 128 1 (.t 3) (.t 16), none⟩,
                        ⟨none, .store 1 (.t 27) (.t 26), none⟩]))
                (.region
                  [⟨some 14, .mv (.t 5), none⟩,
                    ⟨some 15, .bin .add (.t 14) (.k (.c (.int .i64 1))), none⟩,
                    ⟨some 5, .mv (.t 15), none⟩])))))))
        (.region
          [⟨some 8, .mv (.t 4), none⟩,
            ⟨some 9, .bin .add (.t 8) (.k (.c (.int .i64 1))), none⟩,
            ⟨some 4, .mv (.t 9), none⟩]))))))
  (.seq (.region
      [⟨some 28, .loadN 128 (.t 3), none⟩,
        ⟨none, .store 128 (.t 2) (.t 28), none⟩])
  (.ret)))))
theorem t_pestleref19_Xor : A F_pestleref19_Xor = some c_pestleref19_Xor := by kernel_rfl

noncomputable def c_pestleref19_Bytes : AFn := AFn.mk 17 [.tmp 2]
  (.seq (.region
      [⟨some 1, .box (.t 0), none⟩,
        ⟨some 2, .mv (.k (.c (.str []))), none⟩])
  (.seq (.region
      [⟨some 3, .mv (.k (.c (.snil))), none⟩])
  (.seq (.seq (.region
        [⟨some 4, .mv (.k (.c (.int .i64 0))), none⟩])
    (.block 0
      (.loop
        (.seq (.seq (.region
              [⟨some 5, .mv (.t 4), none⟩,
                ⟨some 6, .bin .lss (.t 5) (.k (.c (.int .i64 128))), none⟩])
          (.cond (.t 6)
            (.skip)
            (.exit 0)))
        (.seq (.block 1
            (.region
              [⟨some 9, .mv (.t 3), none⟩,
                ⟨some 10, .mv (.t 4), none⟩,
                ⟨some 11, .idxArr 128 1 (.t 1) (.t 10), none⟩,
                ⟨some 12, .load1 (.t 11), none⟩,
                ⟨some 13, .call F_pestleref01_Of64 [.t 12], none⟩,
                ⟨some 14, .append ([.int .u8 0]) 1 (.t 9) (.t 13), none⟩,
                ⟨some 3, .mv (.t 14), none⟩]))
        (.region
          [⟨some 7, .mv (.t 4), none⟩,
            ⟨some 8, .bin .add (.t 7) (.k (.c (.int .i64 1))), none⟩,
            ⟨some 4, .mv (.t 8), none⟩]))))))
  (.seq (.region
      [⟨some 15, .mv (.t 3), none⟩,
        ⟨some 16, .bytesStr (.t 15), none⟩,
        ⟨some 2, .mv (.t 16), none⟩])
  (.ret)))))
theorem t_pestleref19_Bytes : A F_pestleref19_Bytes = some c_pestleref19_Bytes := by kernel_rfl
end PK
