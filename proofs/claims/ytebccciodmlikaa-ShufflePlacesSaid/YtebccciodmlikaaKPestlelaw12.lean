/- Package pestlelaw12 as code of the abstract machine. -/
import Derived.Test.YtebccciodmlikaaKF
namespace PK
open Go PAbs

noncomputable def c_pestlelaw12_SalsaQuarters : AFn := AFn.mk 51 [.tmp 2]
  (.seq (.region
      [⟨some 1, .box (.t 0), none⟩,
        ⟨some 2, .mv (.k (.c (.bool false))), none⟩])
  (.seq (.seq (.region
        [⟨some 8, .call F_pestlelaw12_awake [], none⟩,
          ⟨some 9, .un .not (.t 8), none⟩])
    (.cond (.t 9)
      (.seq (.region
          [⟨some 2, .mv (.k (.c (.bool false))), none⟩])
      (.ret))
      (.skip)))
  (.seq (.region
      [⟨some 11, .idxArr 16 1 (.t 1) (.k (.c (.int .i64 0))), none⟩,
        ⟨some 12, .load1 (.t 11), none⟩,
        ⟨some 13, .idxArr 16 1 (.t 1) (.k (.c (.int .i64 1))), none⟩,
        ⟨some 14, .load1 (.t 13), none⟩,
        ⟨some 15, .idxArr 16 1 (.t 1) (.k (.c (.int .i64 2))), none⟩,
        ⟨some 16, .load1 (.t 15), none⟩,
        ⟨some 17, .idxArr 16 1 (.t 1) (.k (.c (.int .i64 3))), none⟩,
        ⟨some 18, .load1 (.t 17), none⟩,
        ⟨some 19, .call F_salsa_Quarter [.t 12, .t 14, .t 16, .t 18], none⟩,
        ⟨some 10, .mv (.t 19), none⟩,
        ⟨some 20, .extract (.t 10) 0, none⟩,
        ⟨some 21, .extract (.t 10) 1, none⟩,
        ⟨some 22, .extract (.t 10) 2, none⟩,
        ⟨some 23, .extract (.t 10) 3, none⟩,
        ⟨some 3, .mv (.t 20), none⟩,
        ⟨some 4, .mv (.t 21), none⟩,
        ⟨some 5, .mv (.t 22), none⟩,
        ⟨some 6, .mv (.t 23), none⟩])
  (.seq (.region
      [⟨some 24, .idxArr 16 1 (.t 1) (.k (.c (.int .i64 0))), none⟩,
        ⟨some 25, .load1 (.t 24), none⟩,
        ⟨some 26, .idxArr 16 1 (.t 1) (.k (.c (.int .i64 1))), none⟩,
        ⟨some 27, .load1 (.t 26), none⟩,
        ⟨some 28, .idxArr 16 1 (.t 1) (.k (.c (.int .i64 2))), none⟩,
        ⟨some 29, .load1 (.t 28), none⟩,
        ⟨some 30, .idxArr 16 1 (.t 1) (.k (.c (.int .i64 3))), none⟩,
        ⟨some 31, .load1 (.t 30), none⟩,
        ⟨some 32, .build (rep 4 (.int .u32 0)) [(0, 1, .t 25), (1, 1, .t 27), (2, 1, .t 29), (3, 1, .t 31)], none⟩,
        ⟨some 7, .alloc (rep 4 (.int .u32 0)), none⟩,
        ⟨none, .store 4 (.t 7) (.t 32), none⟩])
  (.seq (.draw
      [⟨some 33, .mv (.t 3), none⟩,
        ⟨some 34, .mv (.t 4), none⟩,
        ⟨some 35, .mv (.t 5), none⟩,
        ⟨some 36, .mv (.t 6), none⟩,
        ⟨some 37, .build (rep 4 (.int .u32 0)) [(0, 1, .t 33), (1, 1, .t 34), (2, 1, .t 35), (3, 1, .t 36)], none⟩,
        ⟨some 38, .loadN 4 (.t 7), none⟩,
        ⟨some 39, .call F_pestleref12_Quarter [.t 38], none⟩,
        ⟨some 40, .eq false (.agg (rep 4 (.int .u32))) (.t 37) (.t 39), none⟩,
        ⟨some 41, .mv (.t 40), none⟩,
        ⟨some 42, .mv (.t 3), some (41, true)⟩,
        ⟨some 43, .mv (.t 4), some (41, true)⟩,
        ⟨some 44, .mv (.t 5), some (41, true)⟩,
        ⟨some 45, .mv (.t 6), some (41, true)⟩,
        ⟨some 46, .build (rep 4 (.int .u32 0)) [(0, 1, .t 42), (1, 1, .t 43), (2, 1, .t 44), (3, 1, .t 45)], some (41, true)⟩,
        ⟨some 47, .call F_pestleref12_Undone [.t 46], some (41, true)⟩,
        ⟨some 48, .loadN 4 (.t 7), some (41, true)⟩]
      [⟨some 49, .eq false (.agg (rep 4 (.int .u32))) (.t 47) (.t 48), some (41, true)⟩,
        ⟨some 50, .pick (.t 41) (.t 49) (.k (.c (.bool false))), none⟩,
        ⟨some 2, .mv (.t 50), none⟩])
  (.ret))))))
theorem t_pestlelaw12_SalsaQuarters : A F_pestlelaw12_SalsaQuarters = some c_pestlelaw12_SalsaQuarters := by kernel_rfl

noncomputable def c_pestlelaw12_SalsaCores : AFn := AFn.mk 50 [.tmp 4]
  (.seq (.region
      [⟨some 2, .box (.t 0), none⟩,
        ⟨some 4, .mv (.k (.c (.bool false))), none⟩])
  (.seq (.seq (.region
        [⟨some 7, .call F_pestlelaw12_awake [], none⟩,
          ⟨some 8, .un .not (.t 7), none⟩])
    (.cond (.t 8)
      (.seq (.region
          [⟨some 4, .mv (.k (.c (.bool false))), none⟩])
      (.ret))
      (.skip)))
  (.seq (.region
      [⟨some 10, .loadN 16 (.t 2), none⟩,
        ⟨some 11, .mv (.t 1), none⟩,
        ⟨some 12, .call F_salsa_Core [.t 10, .t 11], none⟩,
        ⟨some 9, .mv (.t 12), none⟩,
        ⟨some 13, .extract (.t 9) 0, none⟩,
        ⟨some 14, .extract (.t 9) 1, none⟩,
        ⟨some 5, .alloc (rep 16 (.int .u32 0)), none⟩,
        ⟨none, .store 16 (.t 5) (.t 13), none⟩,
        ⟨some 6, .mv (.t 14), none⟩])
  (.seq (.seq (.region
        [⟨some 15, .mv (.t 1), none⟩,
          ⟨some 16, .bin .lss (.t 15) (.k (.c (.int .i64 0))), none⟩,
          ⟨some 17, .mv (.t 16), none⟩,
          ⟨some 18, .mv (.t 1), some (17, false)⟩,
          ⟨some 19, .bin .gtr (.t 18) (.k (.c (.int .i64 100))), some (17, false)⟩,
          ⟨some 20, .pick (.t 17) (.k (.c (.bool true))) (.t 19), none⟩])
    (.cond (.t 20)
      (.seq (.region
          [⟨some 21, .mv (.t 6), none⟩,
            ⟨some 22, .bin .eql (.t 21) (.k (.c (.int .i64 1))), none⟩,
            ⟨some 23, .mv (.t 22), none⟩,
            ⟨some 24, .loadN 16 (.t 5), some (23, true)⟩,
            ⟨some 25, .build (rep 16 (.int .u32 0)) [], some (23, true)⟩,
            ⟨some 26, .eq false (.agg (rep 16 (.int .u32))) (.t 24) (.t 25), some (23, true)⟩,
            ⟨some 27, .pick (.t 23) (.t 26) (.k (.c (.bool false))), none⟩,
            ⟨some 4, .mv (.t 27), none⟩])
      (.ret))
      (.skip)))
  (.seq (.seq (.draw
        [⟨some 28, .mv (.t 6), none⟩,
          ⟨some 29, .bin .neq (.t 28) (.k (.c (.int .i64 0))), none⟩,
          ⟨some 30, .mv (.t 29), none⟩,
          ⟨some 31, .loadN 16 (.t 5), some (30, false)⟩,
          ⟨some 32, .loadN 16 (.t 2), some (30, false)⟩,
          ⟨some 33, .mv (.t 1), some (30, false)⟩,
          ⟨some 34, .call F_pestleref12_Core [.t 32, .t 33], some (30, false)⟩,
          ⟨some 35, .eq true (.agg (rep 16 (.int .u32))) (.t 31) (.t 34), some (30, false)⟩,
          ⟨some 36, .pick (.t 30) (.k (.c (.bool true))) (.t 35), none⟩,
          ⟨some 37, .mv (.t 36), none⟩,
          ⟨some 38, .loadN 16 (.t 2), some (37, false)⟩,
          ⟨some 39, .call F_salsa_Eight [.t 38], some (37, false)⟩,
          ⟨some 40, .loadN 16 (.t 2), some (37, false)⟩]
        [⟨some 41, .call F_pestleref12_Core [.t 40, .k (.c (.int .i64 4))], some (37, false)⟩,
          ⟨some 42, .eq true (.agg (rep 16 (.int .u32))) (.t 39) (.t 41), some (37, false)⟩,
          ⟨some 43, .pick (.t 37) (.k (.c (.bool true))) (.t 42), none⟩])
    (.cond (.t 43)
      (.seq (.region
          [⟨some 4, .mv (.k (.c (.bool false))), none⟩])
      (.ret))
      (.skip)))
  (.seq (.draw
      [⟨some 44, .loadN 16 (.t 2), none⟩,
        ⟨some 45, .call F_salsa_Double [.t 44], none⟩,
        ⟨some 46, .loadN 16 (.t 2), none⟩]
      [⟨some 47, .call F_pestleref12_Half [.t 46, .k (.c (.bool false))], none⟩,
        ⟨some 48, .call F_pestleref12_Half [.t 47, .k (.c (.bool true))], none⟩,
        ⟨some 49, .eq false (.agg (rep 16 (.int .u32))) (.t 45) (.t 48), none⟩,
        ⟨some 4, .mv (.t 49), none⟩])
  (.ret)))))))
theorem t_pestlelaw12_SalsaCores : A F_pestlelaw12_SalsaCores = some c_pestlelaw12_SalsaCores := by kernel_rfl

noncomputable def c_pestlelaw12_SalsaBytes : AFn := AFn.mk 64 [.tmp 2]
  (.seq (.region
      [⟨some 2, .mv (.k (.c (.bool false))), none⟩])
  (.seq (.seq (.region
        [⟨some 12, .call F_pestlelaw12_awake [], none⟩,
          ⟨some 13, .un .not (.t 12), none⟩])
    (.cond (.t 13)
      (.seq (.region
          [⟨some 2, .mv (.k (.c (.bool false))), none⟩])
      (.ret))
      (.skip)))
  (.seq (.region
      [⟨some 15, .mv (.t 0), none⟩,
        ⟨some 16, .call F_salsa_Bytes [.t 15], none⟩,
        ⟨some 14, .mv (.t 16), none⟩,
        ⟨some 17, .extract (.t 14) 0, none⟩,
        ⟨some 18, .extract (.t 14) 1, none⟩,
        ⟨some 3, .mv (.t 17), none⟩,
        ⟨some 4, .mv (.t 18), none⟩])
  (.seq (.seq (.region
        [⟨some 19, .mv (.t 0), none⟩,
          ⟨some 20, .len false (.t 19), none⟩,
          ⟨some 21, .bin .neq (.t 20) (.k (.c (.int .i64 64))), none⟩])
    (.cond (.t 21)
      (.seq (.region
          [⟨some 22, .mv (.t 4), none⟩,
            ⟨some 23, .bin .eql (.t 22) (.k (.c (.int .i64 9))), none⟩,
            ⟨some 24, .mv (.t 23), none⟩,
            ⟨some 25, .mv (.t 3), some (24, true)⟩,
            ⟨some 26, .len false (.t 25), some (24, true)⟩,
            ⟨some 27, .bin .eql (.t 26) (.k (.c (.int .i64 0))), some (24, true)⟩,
            ⟨some 28, .pick (.t 24) (.t 27) (.k (.c (.bool false))), none⟩,
            ⟨some 2, .mv (.t 28), none⟩])
      (.ret))
      (.skip)))
  (.seq (.region
      [⟨some 30, .mv (.t 0), none⟩,
        ⟨some 31, .call F_pestleref01_Words [.t 30, .k (.c (.int .i64 4))], none⟩,
        ⟨some 29, .mv (.t 31), none⟩,
        ⟨some 32, .extract (.t 29) 0, none⟩,
        ⟨some 33, .extract (.t 29) 1, none⟩,
        ⟨some 5, .mv (.t 32), none⟩,
        ⟨some 6, .mv (.t 33), none⟩])
  (.seq (.region
      [⟨some 7, .alloc (rep 16 (.int .u32 0)), none⟩])
  (.seq (.seq (.region
        [⟨some 34, .mv (.k (.c (.int .i64 0))), none⟩])
    (.block 0
      (.loop
        (.seq (.region
            [⟨some 35, .bin .lss (.t 34) (.k (.c (.int .i64 16))), none⟩])
        (.seq (.cond (.t 35)
            (.skip)
            (.exit 0))
        (.seq (.block 1
            (.seq (.region
                [⟨some 36, .mv (.t 34), none⟩,
                  ⟨some 8, .mv (.t 36), none⟩])
            (.region
              [⟨some 37, .mv (.t 8), none⟩,
                ⟨some 38, .mv (.t 5), none⟩,
                ⟨some 39, .mv (.t 8), none⟩,
                ⟨some 40, .idxSlc 1 (.t 38) (.t 39), none⟩,
                ⟨some 41, .load1 (.t 40), none⟩,
                ⟨some 42, .convInt .u32 (.t 41), none⟩,
                ⟨some 43, .idxArr 16 1 (.t 7) (.t 37), none⟩,
                ⟨none, .store 1 (.t 43) (.t 42), none⟩])))
        (.region
          [⟨some 44, .bin .add (.t 34) (.k (.c (.int .i64 1))), none⟩,
            ⟨some 34, .mv (.t 44), none⟩])))))))
  (.seq (.region
      [⟨some 9, .mv (.k (.c (.snil))), none⟩])
  (.seq (.seq (.region
        [⟨some 45, .loadN 16 (.t 7), none⟩,
          ⟨some 46, .call F_pestleref12_Core [.t 45, .k (.c (.int .i64 4))], none⟩,
          ⟨some 47, .mv (.k (.c (.int .i64 0))), none⟩])
    (.block 2
      (.loop
        (.seq (.region
            [⟨some 48, .bin .lss (.t 47) (.k (.c (.int .i64 16))), none⟩])
        (.seq (.cond (.t 48)
            (.skip)
            (.exit 2))
        (.seq (.block 3
            (.seq (.region
                [⟨some 49, .elem1 16 (.t 46) (.t 47), none⟩,
                  ⟨some 11, .mv (.t 49), none⟩])
            (.region
              [⟨some 50, .mv (.t 9), none⟩,
                ⟨some 51, .mv (.t 11), none⟩,
                ⟨some 52, .call F_pestleref01_Of32 [.t 51], none⟩,
                ⟨some 53, .append ([.int .u8 0]) 1 (.t 50) (.t 52), none⟩,
                ⟨some 9, .mv (.t 53), none⟩])))
        (.region
          [⟨some 54, .bin .add (.t 47) (.k (.c (.int .i64 1))), none⟩,
            ⟨some 47, .mv (.t 54), none⟩])))))))
  (.seq (.region
      [⟨some 55, .mv (.t 4), none⟩,
        ⟨some 56, .bin .eql (.t 55) (.k (.c (.int .i64 0))), none⟩,
        ⟨some 57, .mv (.t 56), none⟩,
        ⟨some 58, .mv (.t 3), some (57, true)⟩,
        ⟨some 59, .bytesStr (.t 58), some (57, true)⟩,
        ⟨some 60, .mv (.t 9), some (57, true)⟩,
        ⟨some 61, .bytesStr (.t 60), some (57, true)⟩,
        ⟨some 62, .bin .eql (.t 59) (.t 61), some (57, true)⟩,
        ⟨some 63, .pick (.t 57) (.t 62) (.k (.c (.bool false))), none⟩,
        ⟨some 2, .mv (.t 63), none⟩])
  (.ret)))))))))))
theorem t_pestlelaw12_SalsaBytes : A F_pestlelaw12_SalsaBytes = some c_pestlelaw12_SalsaBytes := by kernel_rfl

noncomputable def c_pestlelaw12_awake : AFn := AFn.mk 31 [.tmp 0]
  (.seq (.region
      [⟨some 0, .mv (.k (.c (.bool false))), none⟩])
  (.seq (.region
      [⟨some 6, .call F_salsa_Quarter [.k (.c (.int .u32 1)), .k (.c (.int .u32 0)), .k (.c (.int .u32 0)), .k (.c (.int .u32 0))], none⟩,
        ⟨some 5, .mv (.t 6), none⟩,
        ⟨some 7, .extract (.t 5) 0, none⟩,
        ⟨some 8, .extract (.t 5) 1, none⟩,
        ⟨some 9, .extract (.t 5) 2, none⟩,
        ⟨some 10, .extract (.t 5) 3, none⟩,
        ⟨some 1, .mv (.t 7), none⟩,
        ⟨some 2, .mv (.t 8), none⟩,
        ⟨some 3, .mv (.t 9), none⟩,
        ⟨some 4, .mv (.t 10), none⟩])
  (.seq (.region
      [⟨some 11, .mv (.t 1), none⟩,
        ⟨some 12, .bin .eql (.t 11) (.k (.c (.int .u32 134250821))), none⟩,
        ⟨some 13, .mv (.t 12), none⟩,
        ⟨some 14, .mv (.t 2), some (13, true)⟩,
        ⟨some 15, .bin .eql (.t 14) (.k (.c (.int .u32 128))), some (13, true)⟩,
        ⟨some 16, .pick (.t 13) (.t 15) (.k (.c (.bool false))), none⟩,
        ⟨some 17, .mv (.t 16), none⟩,
        ⟨some 18, .mv (.t 3), some (17, true)⟩,
        ⟨some 19, .bin .eql (.t 18) (.k (.c (.int .u32 66048))), some (17, true)⟩,
        ⟨some 20, .pick (.t 17) (.t 19) (.k (.c (.bool false))), none⟩,
        ⟨some 21, .mv (.t 20), none⟩,
        ⟨some 22, .mv (.t 4), some (21, true)⟩,
        ⟨some 23, .bin .eql (.t 22) (.k (.c (.int .u32 542113792))), some (21, true)⟩,
        ⟨some 24, .pick (.t 21) (.t 23) (.k (.c (.bool false))), none⟩,
        ⟨some 25, .mv (.t 24), none⟩,
        ⟨some 26, .build (rep 16 (.int .u32 0)) [], some (25, true)⟩,
        ⟨some 27, .call F_salsa_Eight [.t 26], some (25, true)⟩,
        ⟨some 28, .build (rep 16 (.int .u32 0)) [], some (25, true)⟩,
        ⟨some 29, .eq false (.agg (rep 16 (.int .u32))) (.t 27) (.t 28), some (25, true)⟩,
        ⟨some 30, .pick (.t 25) (.t 29) (.k (.c (.bool false))), none⟩,
        ⟨some 0, .mv (.t 30), none⟩])
  (.ret))))
theorem t_pestlelaw12_awake : A F_pestlelaw12_awake = some c_pestlelaw12_awake := by kernel_rfl
end PK
