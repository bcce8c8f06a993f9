/- Package pestlelaw19 as code of the abstract machine. -/
import Derived.Test.YtcjfnnbeflbikaaKF
namespace PK
open Go PAbs

noncomputable def c_pestlelaw19_BlockHalves : AFn := AFn.mk 71 [.tmp 8]
  (.seq (.region
      [⟨some 4, .box (.t 0), none⟩,
        ⟨some 8, .mv (.k (.c (.bool false))), none⟩])
  (.seq (.seq (.region
        [⟨some 10, .call F_pestlelaw19_awake [], none⟩,
          ⟨some 11, .un .not (.t 10), none⟩])
    (.cond (.t 11)
      (.seq (.region
          [⟨some 8, .mv (.k (.c (.bool false))), none⟩])
      (.ret))
      (.skip)))
  (.seq (.seq (.draw
        [⟨some 12, .mv (.t 1), none⟩,
          ⟨some 13, .call F_block_Half [.t 4, .t 12], none⟩,
          ⟨some 14, .loadN 128 (.t 4), none⟩,
          ⟨some 15, .mv (.t 1), none⟩,
          ⟨some 16, .call F_pestleref19_Half [.t 14, .t 15], none⟩,
          ⟨some 17, .bin .neq (.t 13) (.t 16), none⟩,
          ⟨some 18, .mv (.t 17), none⟩,
          ⟨some 19, .mv (.t 1), some (18, false)⟩,
          ⟨some 20, .call F_block_Half [.k (.c (.pnil)), .t 19], some (18, false)⟩,
          ⟨some 21, .bin .neq (.t 20) (.k (.c (.int .u32 0))), some (18, false)⟩,
          ⟨some 22, .pick (.t 18) (.k (.c (.bool true))) (.t 21), none⟩,
          ⟨some 23, .mv (.t 22), none⟩,
          ⟨some 24, .mv (.t 1), some (23, false)⟩,
          ⟨some 25, .mv (.t 3), some (23, false)⟩]
        [⟨some 26, .call F_block_SetHalf [.k (.c (.pnil)), .t 24, .t 25], some (23, false)⟩,
          ⟨some 27, .pick (.t 23) (.k (.c (.bool true))) (.t 26), none⟩])
    (.cond (.t 27)
      (.seq (.region
          [⟨some 8, .mv (.k (.c (.bool false))), none⟩])
      (.ret))
      (.skip)))
  (.seq (.region
      [⟨some 28, .loadN 128 (.t 4), none⟩,
        ⟨some 9, .alloc (rep 128 (.int .u64 0)), none⟩,
        ⟨none, .store 128 (.t 9) (.t 28), none⟩])
  (.seq (.seq (.region
        [⟨some 29, .mv (.t 1), none⟩,
          ⟨some 30, .mv (.t 3), none⟩,
          ⟨some 31, .call F_block_SetHalf [.t 9, .t 29, .t 30], none⟩,
          ⟨some 32, .mv (.t 1), none⟩,
          ⟨some 33, .bin .geq (.t 32) (.k (.c (.int .i64 0))), none⟩,
          ⟨some 34, .mv (.t 33), none⟩,
          ⟨some 35, .mv (.t 1), some (34, true)⟩,
          ⟨some 36, .bin .lss (.t 35) (.k (.c (.int .i64 256))), some (34, true)⟩,
          ⟨some 37, .pick (.t 34) (.t 36) (.k (.c (.bool false))), none⟩,
          ⟨some 38, .eq true .bool (.t 31) (.t 37), none⟩])
    (.cond (.t 38)
      (.seq (.region
          [⟨some 8, .mv (.k (.c (.bool false))), none⟩])
      (.ret))
      (.skip)))
  (.seq (.seq (.region
        [⟨some 39, .mv (.t 1), none⟩,
          ⟨some 40, .bin .lss (.t 39) (.k (.c (.int .i64 0))), none⟩,
          ⟨some 41, .mv (.t 40), none⟩,
          ⟨some 42, .mv (.t 1), some (41, false)⟩,
          ⟨some 43, .bin .gtr (.t 42) (.k (.c (.int .i64 255))), some (41, false)⟩,
          ⟨some 44, .pick (.t 41) (.k (.c (.bool true))) (.t 43), none⟩])
    (.cond (.t 44)
      (.seq (.region
          [⟨some 45, .loadN 128 (.t 9), none⟩,
            ⟨some 46, .loadN 128 (.t 4), none⟩,
            ⟨some 47, .eq false (.agg (rep 128 (.int .u64))) (.t 45) (.t 46), none⟩,
            ⟨some 8, .mv (.t 47), none⟩])
      (.ret))
      (.skip)))
  (.seq (.seq (.region
        [⟨some 48, .mv (.t 2), none⟩,
          ⟨some 49, .mv (.t 1), none⟩,
          ⟨some 50, .bin .neq (.t 48) (.t 49), none⟩,
          ⟨some 51, .mv (.t 50), none⟩,
          ⟨some 52, .mv (.t 2), some (51, true)⟩,
          ⟨some 53, .call F_block_Half [.t 9, .t 52], some (51, true)⟩,
          ⟨some 54, .mv (.t 2), some (51, true)⟩,
          ⟨some 55, .call F_block_Half [.t 4, .t 54], some (51, true)⟩,
          ⟨some 56, .bin .neq (.t 53) (.t 55), some (51, true)⟩,
          ⟨some 57, .pick (.t 51) (.t 56) (.k (.c (.bool false))), none⟩,
          ⟨some 58, .mv (.t 57), none⟩,
          ⟨some 59, .mv (.t 1), some (58, false)⟩,
          ⟨some 60, .call F_block_Half [.t 9, .t 59], some (58, false)⟩,
          ⟨some 61, .mv (.t 3), some (58, false)⟩,
          ⟨some 62, .bin .neq (.t 60) (.t 61), some (58, false)⟩,
          ⟨some 63, .pick (.t 58) (.k (.c (.bool true))) (.t 62), none⟩])
    (.cond (.t 63)
      (.seq (.region
          [⟨some 8, .mv (.k (.c (.bool false))), none⟩])
      (.ret))
      (.skip)))
  (.seq (.region
      [⟨some 64, .mv (.t 1), none⟩,
        ⟨some 65, .mv (.t 1), none⟩,
        ⟨some 66, .call F_block_Half [.t 4, .t 65], none⟩,
        ⟨some 67, .call F_block_SetHalf [.t 9, .t 64, .t 66], none⟩])
  (.seq (.region
      [⟨some 68, .loadN 128 (.t 9), none⟩,
        ⟨some 69, .loadN 128 (.t 4), none⟩,
        ⟨some 70, .eq false (.agg (rep 128 (.int .u64))) (.t 68) (.t 69), none⟩,
        ⟨some 8, .mv (.t 70), none⟩])
  (.ret))))))))))
theorem t_pestlelaw19_BlockHalves : A F_pestlelaw19_BlockHalves = some c_pestlelaw19_BlockHalves := by kernel_rfl

noncomputable def c_pestlelaw19_BlockBytes : AFn := AFn.mk 103 [.tmp 6]
  (.seq (.region
      [⟨some 3, .box (.t 0), none⟩,
        ⟨some 6, .mv (.k (.c (.bool false))), none⟩])
  (.seq (.seq (.region
        [⟨some 15, .call F_pestlelaw19_awake [], none⟩,
          ⟨some 16, .un .not (.t 15), none⟩])
    (.cond (.t 16)
      (.seq (.region
          [⟨some 6, .mv (.k (.c (.bool false))), none⟩])
      (.ret))
      (.skip)))
  (.seq (.seq (.draw
        [⟨some 17, .loadN 128 (.t 3), none⟩,
          ⟨some 18, .call F_block_Bytes [.t 17], none⟩,
          ⟨some 19, .loadN 128 (.t 3), none⟩]
        [⟨some 20, .call F_pestleref19_Bytes [.t 19], none⟩,
          ⟨some 21, .bin .neq (.t 18) (.t 20), none⟩])
    (.cond (.t 21)
      (.seq (.region
          [⟨some 6, .mv (.k (.c (.bool false))), none⟩])
      (.ret))
      (.skip)))
  (.seq (.region
      [⟨some 23, .loadN 128 (.t 3), none⟩,
        ⟨some 24, .call F_block_Bytes [.t 23], none⟩,
        ⟨some 25, .call F_block_From [.t 24], none⟩,
        ⟨some 22, .mv (.t 25), none⟩,
        ⟨some 26, .extract (.t 22) 0, none⟩,
        ⟨some 27, .extract (.t 22) 1, none⟩,
        ⟨some 7, .alloc (rep 128 (.int .u64 0)), none⟩,
        ⟨none, .store 128 (.t 7) (.t 26), none⟩,
        ⟨some 8, .mv (.t 27), none⟩])
  (.seq (.seq (.region
        [⟨some 28, .mv (.t 8), none⟩,
          ⟨some 29, .bin .neq (.t 28) (.k (.c (.int .i64 0))), none⟩,
          ⟨some 30, .mv (.t 29), none⟩,
          ⟨some 31, .loadN 128 (.t 7), some (30, false)⟩,
          ⟨some 32, .loadN 128 (.t 3), some (30, false)⟩,
          ⟨some 33, .eq true (.agg (rep 128 (.int .u64))) (.t 31) (.t 32), some (30, false)⟩,
          ⟨some 34, .pick (.t 30) (.k (.c (.bool true))) (.t 33), none⟩])
    (.cond (.t 34)
      (.seq (.region
          [⟨some 6, .mv (.k (.c (.bool false))), none⟩])
      (.ret))
      (.skip)))
  (.seq (.region
      [⟨some 36, .mv (.t 1), none⟩,
        ⟨some 37, .call F_block_From [.t 36], none⟩,
        ⟨some 35, .mv (.t 37), none⟩,
        ⟨some 38, .extract (.t 35) 0, none⟩,
        ⟨some 39, .extract (.t 35) 1, none⟩,
        ⟨some 9, .alloc (rep 128 (.int .u64 0)), none⟩,
        ⟨none, .store 128 (.t 9) (.t 38), none⟩,
        ⟨some 10, .mv (.t 39), none⟩])
  (.seq (.seq (.region
        [⟨some 40, .mv (.t 1), none⟩,
          ⟨some 41, .len true (.t 40), none⟩,
          ⟨some 42, .bin .neq (.t 41) (.k (.c (.int .i64 1024))), none⟩])
    (.cond (.t 42)
      (.seq (.region
          [⟨some 43, .mv (.t 10), none⟩,
            ⟨some 44, .bin .neq (.t 43) (.k (.c (.int .i64 9))), none⟩,
            ⟨some 45, .mv (.t 44), none⟩,
            ⟨some 46, .loadN 128 (.t 9), some (45, false)⟩,
            ⟨some 47, .build (rep 128 (.int .u64 0)) [], some (45, false)⟩,
            ⟨some 48, .eq true (.agg (rep 128 (.int .u64))) (.t 46) (.t 47), some (45, false)⟩,
            ⟨some 49, .pick (.t 45) (.k (.c (.bool true))) (.t 48), none⟩])
      (.cond (.t 49)
        (.seq (.region
            [⟨some 6, .mv (.k (.c (.bool false))), none⟩])
        (.ret))
        (.skip)))
      (.seq (.region
          [⟨some 50, .mv (.t 10), none⟩,
            ⟨some 51, .bin .neq (.t 50) (.k (.c (.int .i64 0))), none⟩,
            ⟨some 52, .mv (.t 51), none⟩,
            ⟨some 53, .loadN 128 (.t 9), some (52, false)⟩,
            ⟨some 54, .call F_pestleref19_Bytes [.t 53], some (52, false)⟩,
            ⟨some 55, .mv (.t 1), some (52, false)⟩,
            ⟨some 56, .bin .neq (.t 54) (.t 55), some (52, false)⟩,
            ⟨some 57, .pick (.t 52) (.k (.c (.bool true))) (.t 56), none⟩])
      (.cond (.t 57)
        (.seq (.region
            [⟨some 6, .mv (.k (.c (.bool false))), none⟩])
        (.ret))
        (.skip)))))
  (.seq (.region
      [⟨some 59, .mv (.t 2), none⟩,
        ⟨some 60, .call F_block_Of [.t 59], none⟩,
        ⟨some 58, .mv (.t 60), none⟩,
        ⟨some 61, .extract (.t 58) 0, none⟩,
        ⟨some 62, .extract (.t 58) 1, none⟩,
        ⟨some 11, .alloc (rep 128 (.int .u64 0)), none⟩,
        ⟨none, .store 128 (.t 11) (.t 61), none⟩,
        ⟨some 12, .mv (.t 62), none⟩])
  (.seq (.seq (.region
        [⟨some 63, .mv (.t 2), none⟩,
          ⟨some 64, .len false (.t 63), none⟩,
          ⟨some 65, .bin .gtr (.t 64) (.k (.c (.int .i64 128))), none⟩])
    (.cond (.t 65)
      (.seq (.region
          [⟨some 66, .mv (.t 12), none⟩,
            ⟨some 67, .bin .eql (.t 66) (.k (.c (.int .i64 14))), none⟩,
            ⟨some 68, .mv (.t 67), none⟩,
            ⟨some 69, .loadN 128 (.t 11), some (68, true)⟩,
            ⟨some 70, .build (rep 128 (.int .u64 0)) [], some (68, true)⟩,
            ⟨some 71, .eq false (.agg (rep 128 (.int .u64))) (.t 69) (.t 70), some (68, true)⟩,
            ⟨some 72, .pick (.t 68) (.t 71) (.k (.c (.bool false))), none⟩,
            ⟨some 6, .mv (.t 72), none⟩])
      (.ret))
      (.skip)))
  (.seq (.seq (.region
        [⟨some 73, .loadN 128 (.t 11), none⟩,
          ⟨some 74, .mv (.k (.c (.int .i64 0))), none⟩])
    (.block 0
      (.loop
        (.seq (.region
            [⟨some 75, .bin .lss (.t 74) (.k (.c (.int .i64 128))), none⟩])
        (.seq (.cond (.t 75)
            (.skip)
            (.exit 0))
        (.seq (.block 1
            (.seq (.region
                [⟨some 76, .mv (.t 74), none⟩,
                  ⟨some 77, .elem1 128 (.t 73) (.t 74), none⟩,
                  ⟨some 13, .mv (.t 76), none⟩,
                  ⟨some 14, .mv (.t 77), none⟩])
            (.seq (.region
                [⟨some 78, .mv (.t 13), none⟩,
                  ⟨some 79, .mv (.t 2), none⟩,
                  ⟨some 80, .len false (.t 79), none⟩,
                  ⟨some 81, .bin .lss (.t 78) (.t 80), none⟩,
                  ⟨some 82, .mv (.t 81), none⟩,
                  ⟨some 83, .mv (.t 14), some (82, true)⟩,
                  ⟨some 84, .mv (.t 2), some (82, true)⟩,
                  ⟨some 85, .mv (.t 13), some (82, true)⟩,
                  ⟨some 86, .idxSlc 1 (.t 84) (.t 85), some (82, true)⟩,
                  ⟨some 87, .load1 (.t 86), some (82, true)⟩,
                  ⟨some 88, .bin .neq (.t 83) (.t 87), some (82, true)⟩,
                  ⟨some 89, .pick (.t 82) (.t 88) (.k (.c (.bool false))), none⟩,
                  ⟨some 90, .mv (.t 89), none⟩,
                  ⟨some 91, .mv (.t 13), some (90, false)⟩,
                  ⟨some 92, .mv (.t 2), some (90, false)⟩,
                  ⟨some 93, .len false (.t 92), some (90, false)⟩,
                  ⟨some 94, .bin .geq (.t 91) (.t 93), some (90, false)⟩,
                  ⟨some 95, .mv (.t 94), some (90, false)⟩,
                  ⟨some 96, .mv (.t 14), some (95, true)⟩,
                  ⟨some 97, .bin .neq (.t 96) (.k (.c (.int .u64 0))), some (95, true)⟩,
                  ⟨some 98, .pick (.t 95) (.t 97) (.k (.c (.bool false))), some (90, false)⟩,
                  ⟨some 99, .pick (.t 90) (.k (.c (.bool true))) (.t 98), none⟩])
            (.cond (.t 99)
              (.seq (.region
                  [⟨some 6, .mv (.k (.c (.bool false))), none⟩])
              (.ret))
              (.skip)))))
        (.region
          [⟨some 100, .bin .add (.t 74) (.k (.c (.int .i64 1))), none⟩,
            ⟨some 74, .mv (.t 100), none⟩])))))))
  (.seq (.region
      [⟨some 101, .mv (.t 12), none⟩,
        ⟨some 102, .bin .eql (.t 101) (.k (.c (.int .i64 0))), none⟩,
        ⟨some 6, .mv (.t 102), none⟩])
  (.ret))))))))))))
theorem t_pestlelaw19_BlockBytes : A F_pestlelaw19_BlockBytes = some c_pestlelaw19_BlockBytes := by kernel_rfl

noncomputable def c_pestlelaw19_awake : AFn := AFn.mk 25 [.tmp 0]
  (.seq (.region
      [⟨some 0, .mv (.k (.c (.bool false))), none⟩])
  (.seq (.region
      [⟨some 5, .buildSlice ([.int .u64 0, .int .u64 0]) 1 2 [(0, 1, .k (.c (.int .u64 1))), (1, 1, .k (.c (.int .u64 2)))], none⟩,
        ⟨some 6, .call F_block_Of [.t 5], none⟩,
        ⟨some 4, .mv (.t 6), none⟩,
        ⟨some 7, .extract (.t 4) 0, none⟩,
        ⟨some 8, .extract (.t 4) 1, none⟩,
        ⟨some 1, .alloc (rep 128 (.int .u64 0)), none⟩,
        ⟨none, .store 128 (.t 1) (.t 7), none⟩,
        ⟨some 2, .mv (.t 8), none⟩])
  (.seq (.region
      [⟨some 9, .call F_block_SetHalf [.t 1, .k (.c (.int .i64 1)), .k (.c (.int .u32 7))], none⟩,
        ⟨some 3, .mv (.t 9), none⟩])
  (.seq (.region
      [⟨some 10, .mv (.t 2), none⟩,
        ⟨some 11, .bin .eql (.t 10) (.k (.c (.int .i64 0))), none⟩,
        ⟨some 12, .mv (.t 11), none⟩,
        ⟨some 13, .mv (.t 3), some (12, true)⟩,
        ⟨some 14, .pick (.t 12) (.t 13) (.k (.c (.bool false))), none⟩,
        ⟨some 15, .mv (.t 14), none⟩,
        ⟨some 16, .idxArr 128 1 (.t 1) (.k (.c (.int .i64 0))), some (15, true)⟩,
        ⟨some 17, .load1 (.t 16), some (15, true)⟩,
        ⟨some 18, .bin .eql (.t 17) (.k (.c (.int .u64 30064771073))), some (15, true)⟩,
        ⟨some 19, .pick (.t 15) (.t 18) (.k (.c (.bool false))), none⟩,
        ⟨some 20, .mv (.t 19), none⟩,
        ⟨some 21, .idxArr 128 1 (.t 1) (.k (.c (.int .i64 1))), some (20, true)⟩,
        ⟨some 22, .load1 (.t 21), some (20, true)⟩,
        ⟨some 23, .bin .eql (.t 22) (.k (.c (.int .u64 2))), some (20, true)⟩,
        ⟨some 24, .pick (.t 20) (.t 23) (.k (.c (.bool false))), none⟩,
        ⟨some 0, .mv (.t 24), none⟩])
  (.ret)))))
theorem t_pestlelaw19_awake : A F_pestlelaw19_awake = some c_pestlelaw19_awake := by kernel_rfl
end PK
