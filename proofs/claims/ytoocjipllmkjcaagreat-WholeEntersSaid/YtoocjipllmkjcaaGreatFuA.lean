/- A part of the proof of 'CraftHolds': lemmas, no statement of their own; no condition. -/
import Derived.Test.YtoocjipllmkjcaaGreatGBeA
namespace Go.Ab
open Go Go.Proofs
def mdAt:Array MapEntry:=List.toArray [{key:=key2 1 0,val:=.agg #[.int .i64 (-293500),.int .i64 0],born:=0},{key:=key2 1 1,val:=.agg #[.int .i64 (-14103),.int .i64 45455],born:=1},{key:=key2 2 0,val:=.agg #[.int .i64 (-25562),.int .i64 0],born:=2},{key:=key2 2 1,val:=.agg #[.int .i64 29509,.int .i64 (-31336)],born:=3},{key:=key2 2 2,val:=.agg #[.int .i64 16487,.int .i64 (-8142)],born:=4},{key:=key2 3 0,val:=.agg #[.int .i64 13609,.int .i64 0],born:=5},{key:=key2 3 1,val:=.agg #[.int .i64 (-24042),.int .i64 (-569)],born:=6},{key:=key2 3 2,val:=.agg #[.int .i64 12438,.int .i64 2376],born:=7},{key:=key2 3 3,val:=.agg #[.int .i64 4534,.int .i64 (-5496)],born:=8},{key:=key2 4 0,val:=.agg #[.int .i64 8947,.int .i64 0],born:=9},{key:=key2 4 1,val:=.agg #[.int .i64 7996,.int .i64 2786],born:=10},{key:=key2 4 2,val:=.agg #[.int .i64 558,.int .i64 (-1340)],born:=11},{key:=key2 4 3,val:=.agg #[.int .i64 (-2811),.int .i64 2120],born:=12},{key:=key2 4 4,val:=.agg #[.int .i64 120,.int .i64 (-3754)],born:=13},{key:=key2 5 0,val:=.agg #[.int .i64 (-2329),.int .i64 0],born:=14},{key:=key2 5 1,val:=.agg #[.int .i64 3690,.int .i64 453],born:=15},{key:=key2 5 2,val:=.agg #[.int .i64 1872,.int .i64 2200],born:=16},{key:=key2 5 3,val:=.agg #[.int .i64 (-1387),.int .i64 (-1229)],born:=17},{key:=key2 5 4,val:=.agg #[.int .i64 (-1419),.int .i64 429],born:=18},{key:=key2 5 5,val:=.agg #[.int .i64 209,.int .i64 1062],born:=19},{key:=key2 6 0,val:=.agg #[.int .i64 643,.int .i64 0],born:=20},{key:=key2 6 1,val:=.agg #[.int .i64 638,.int .i64 (-184)],born:=21},{key:=key2 6 2,val:=.agg #[.int .i64 767,.int .i64 168],born:=22},{key:=key2 6 3,val:=.agg #[.int .i64 (-1157),.int .i64 489],born:=23},{key:=key2 6 4,val:=.agg #[.int .i64 (-409),.int .i64 (-598)],born:=24},{key:=key2 6 5,val:=.agg #[.int .i64 149,.int .i64 109],born:=25},{key:=key2 6 6,val:=.agg #[.int .i64 (-608),.int .i64 728],born:=26}]
def W2p:Array MapEntry:=List.toArray [{key:=key2 1 0,val:=.agg #[.int .i64 126,.int .i64 0],born:=0},{key:=key2 1 1,val:=.agg #[.int .i64 100,.int .i64 (-215)],born:=1},{key:=key2 2 0,val:=.agg #[.int .i64 (-112),.int .i64 0],born:=2},{key:=key2 2 1,val:=.agg #[.int .i64 (-53),.int .i64 (-273)],born:=3},{key:=key2 2 2,val:=.agg #[.int .i64 (-83),.int .i64 (-111)],born:=4}]
noncomputable def mdC:Code:=Tryz.f255.body.getD .skip
theorem C4w:Tryz.f255.body=some mdC:=by kernel_rfl
theorem G3r:Tryz.prog.funcs[255]?=some Tryz.f255:=by kernel_rfl
def mdN:Nat:=79
theorem C4x:Tryz.f255.ntmps=mdN:=by kernel_rfl
def mdZ:St:=gSt mdN [(0,.map (4096+2*2^180)),(1,.map (4096+3*2^180))] [((4096+2*2^180),.obj (.map mdAt 27)),((4096+3*2^180),.obj (.map W2p 5))] (4096+4*2^180)
theorem md_q:gRun Tryz.prog {gam:=[]} mdN mdC (B0t mdN [] []) [(4096+2*2^180),(4096+3*2^180)] [0,1]=some (.ret,mdZ):=by kernel_rfl
theorem D4c:resA Tryz.prog mdZ Tryz.f255.results.toList=some [.map (4096+2*2^180),.map (4096+3*2^180)]:=by kernel_rfl
theorem D4a:(4096:Nat)≤(4096+2*2^180):=Nat.le_of_ble_eq_true (by kernel_rfl)
theorem C4y:((4096+2*2^180):Nat)<4096+2^200:=show ((4096+2*2^180)+1:Nat)≤4096+2^200 from Nat.le_of_ble_eq_true (by kernel_rfl)
theorem D4b:(4096:Nat)≤(4096+3*2^180):=Nat.le_of_ble_eq_true (by kernel_rfl)
theorem C4z:((4096+3*2^180):Nat)<4096+2^200:=show ((4096+3*2^180)+1:Nat)≤4096+2^200 from Nat.le_of_ble_eq_true (by kernel_rfl)
theorem G5t:hget mdZ.heap (4096+2*2^180)=some (.obj (.map mdAt 27)):=by kernel_rfl
theorem G5u:hget mdZ.heap (4096+3*2^180)=some (.obj (.map W2p 5)):=by kernel_rfl
def D0j:D0c:=fun args cs=>match args,cs with
 | [],[]=>.ret (.tuple [.map 0,.map 1]) [.obj (.map mdAt 27),.obj (.map W2p 5)]
 | _,_=>.no
theorem N3k:A0h Tryz.prog 255 D0j:=by
 intro args cs r cs' hs
 unfold D0j at hs
 split at hs
 ·simp only[STr.sel,Option.some.injEq,Prod.mk.injEq]at hs
  obtain ⟨rfl,rfl⟩:=hs
  refine R2r (cs':=[]) (ds:=[.obj (.map mdAt 27),.obj (.map W2p 5)]) (Ms:=[(4096+2*2^180),(4096+3*2^180)]) G3r C4w C4x (Nat.zero_le _) (by show 2≤4096;omega) rfl rfl (by decide) (fun m hm=>?_) rfl rfl (.inr rfl) (A0a (E:={gam:=[]}) .nil md_q) D4c rfl rfl (fun b' c hb=>?_) (fun i m d hi hd=>?_) rfl rfl rfl
  ·simp only[List.mem_cons,List.not_mem_nil,or_false]at hm
   rcases hm with rfl | rfl
   ·exact ⟨D4a,C4y⟩
   ·exact ⟨D4b,C4z⟩
  ·simp at hb
  ·match i,hi,hd with
   | 0,hi,hd=>cases hi;cases hd;exact G5t
   | 1,hi,hd=>cases hi;cases hd;exact G5u
   | n+2,hi,hd=>simp at hi
 ·simp[STr.sel]at hs
structure Tab where
 g:Int
 h:Int
 a:Int
 b:Int
 low:Bool
def D4y(k:Nat):Tab :=
 bif Nat.beq k 10 then ⟨(-293500),0,126,0,true⟩ else
 bif Nat.beq k 11 then ⟨(-14103),45455,100,(-215),true⟩ else
 bif Nat.beq k 20 then ⟨(-25562),0,(-112),0,true⟩ else
 bif Nat.beq k 21 then ⟨29509,(-31336),(-53),(-273),true⟩ else
 bif Nat.beq k 22 then ⟨16487,(-8142),(-83),(-111),true⟩ else
 bif Nat.beq k 30 then ⟨13609,0,0,0,false⟩ else
 bif Nat.beq k 31 then ⟨(-24042),(-569),0,0,false⟩ else
 bif Nat.beq k 32 then ⟨12438,2376,0,0,false⟩ else
 bif Nat.beq k 33 then ⟨4534,(-5496),0,0,false⟩ else
 bif Nat.beq k 40 then ⟨8947,0,0,0,false⟩ else
 bif Nat.beq k 41 then ⟨7996,2786,0,0,false⟩ else
 bif Nat.beq k 42 then ⟨558,(-1340),0,0,false⟩ else
 bif Nat.beq k 43 then ⟨(-2811),2120,0,0,false⟩ else
 bif Nat.beq k 44 then ⟨120,(-3754),0,0,false⟩ else
 bif Nat.beq k 50 then ⟨(-2329),0,0,0,false⟩ else
 bif Nat.beq k 51 then ⟨3690,453,0,0,false⟩ else
 bif Nat.beq k 52 then ⟨1872,2200,0,0,false⟩ else
 bif Nat.beq k 53 then ⟨(-1387),(-1229),0,0,false⟩ else
 bif Nat.beq k 54 then ⟨(-1419),429,0,0,false⟩ else
 bif Nat.beq k 55 then ⟨209,1062,0,0,false⟩ else
 bif Nat.beq k 60 then ⟨643,0,0,0,false⟩ else
 bif Nat.beq k 61 then ⟨638,(-184),0,0,false⟩ else
 bif Nat.beq k 62 then ⟨767,168,0,0,false⟩ else
 bif Nat.beq k 63 then ⟨(-1157),489,0,0,false⟩ else
 bif Nat.beq k 64 then ⟨(-409),(-598),0,0,false⟩ else
 bif Nat.beq k 65 then ⟨149,109,0,0,false⟩ else
 bif Nat.beq k 66 then ⟨(-608),728,0,0,false⟩ else
 ⟨0,0,0,0,false⟩
def H0q(n m:Int):Tab:=match n with
 | .ofNat n=>(match m with
  | .ofNat m=>D4y (10*n+m)
  | _=>⟨0,0,0,0,false⟩)
 | _=>⟨0,0,0,0,false⟩
def H0p(o:Ops)(t:Tab)(d:Int)(f:Bool):Two Int Int×Bool :=
 let g0:=o.part f 1099511627776 t.g 10000
 let h0:=o.part g0.2 1099511627776 t.h 10000
 let y:=o.div h0.2 d 401596622045184
 let a:=o.part y.2 1099511627776 t.a 10000
 let p:=o.mul a.2 y.1 a.1
 let g:=o.add p.2 g0.1 p.1
 let b:=o.part g.2 1099511627776 t.b 10000
 let q:=o.mul b.2 y.1 b.1
 let h:=o.add q.2 h0.1 q.1
 bif t.low then (⟨g.1,h.1⟩,h.2) else (⟨g0.1,h0.1⟩,h0.2)
def numO(o:Ops)(dy:Bool→Int×Unit→Int×Bool)(b:Bool)(p:Int×Int×Int×Unit):Two Int Int×Bool :=
 bif (dy b (p.2.2.1,())).2 then (⟨0,0⟩,(dy b (p.2.2.1,())).2) else H0p o (H0q p.1 p.2.1) (dy b (p.2.2.1,())).1 (dy b (p.2.2.1,())).2
def Q1e(p:Int×Int×Int×Unit):Bool:=match p.1,p.2.1 with
 | .ofNat n,.ofNat m=>Nat.ble 1 n&&(Nat.ble n 6&&Nat.ble m n)
 | _,_=>false
def numT(e:TypeId)(d:Int×Bool)(r:Two Int Int×Bool):Option (AV×List Con):=bif d.2 then some (.val (Cod.enc (Two.mk (0:Int) (0:Int))),row e d.2) else some (.val (Cod.enc r.1),row e r.2)
section
variable (o:Ops) (dy:Bool→Int×Unit→Int×Bool) (b:Bool) (t:Int)
theorem L2m:fnSum Tryz.prog {gam:=(255,D0j) :: (213,S 57 dy) :: gamN o,loud:=[255]} [] 20 246 [.ptr 0 0,.val (.int .i64 1),.val (.int .i64 0),.val (.int .i64 t)] (row 57 b)=numT 57 (dy b (t,())) (H0p o (H0q 1 0) (dy b (t,())).1 (dy b (t,())).2):=by kernel_rfl
theorem L2n:fnSum Tryz.prog {gam:=(255,D0j) :: (213,S 57 dy) :: gamN o,loud:=[255]} [] 20 246 [.ptr 0 0,.val (.int .i64 1),.val (.int .i64 1),.val (.int .i64 t)] (row 57 b)=numT 57 (dy b (t,())) (H0p o (H0q 1 1) (dy b (t,())).1 (dy b (t,())).2):=by kernel_rfl
theorem L2p:fnSum Tryz.prog {gam:=(255,D0j) :: (213,S 57 dy) :: gamN o,loud:=[255]} [] 20 246 [.ptr 0 0,.val (.int .i64 2),.val (.int .i64 0),.val (.int .i64 t)] (row 57 b)=numT 57 (dy b (t,())) (H0p o (H0q 2 0) (dy b (t,())).1 (dy b (t,())).2):=by kernel_rfl
theorem L2q:fnSum Tryz.prog {gam:=(255,D0j) :: (213,S 57 dy) :: gamN o,loud:=[255]} [] 20 246 [.ptr 0 0,.val (.int .i64 2),.val (.int .i64 1),.val (.int .i64 t)] (row 57 b)=numT 57 (dy b (t,())) (H0p o (H0q 2 1) (dy b (t,())).1 (dy b (t,())).2):=by kernel_rfl
theorem L2r:fnSum Tryz.prog {gam:=(255,D0j) :: (213,S 57 dy) :: gamN o,loud:=[255]} [] 20 246 [.ptr 0 0,.val (.int .i64 2),.val (.int .i64 2),.val (.int .i64 t)] (row 57 b)=numT 57 (dy b (t,())) (H0p o (H0q 2 2) (dy b (t,())).1 (dy b (t,())).2):=by kernel_rfl
theorem L2t:fnSum Tryz.prog {gam:=(255,D0j) :: (213,S 57 dy) :: gamN o,loud:=[255]} [] 20 246 [.ptr 0 0,.val (.int .i64 3),.val (.int .i64 0),.val (.int .i64 t)] (row 57 b)=numT 57 (dy b (t,())) (H0p o (H0q 3 0) (dy b (t,())).1 (dy b (t,())).2):=by kernel_rfl
theorem L2u:fnSum Tryz.prog {gam:=(255,D0j) :: (213,S 57 dy) :: gamN o,loud:=[255]} [] 20 246 [.ptr 0 0,.val (.int .i64 3),.val (.int .i64 1),.val (.int .i64 t)] (row 57 b)=numT 57 (dy b (t,())) (H0p o (H0q 3 1) (dy b (t,())).1 (dy b (t,())).2):=by kernel_rfl
theorem L2v:fnSum Tryz.prog {gam:=(255,D0j) :: (213,S 57 dy) :: gamN o,loud:=[255]} [] 20 246 [.ptr 0 0,.val (.int .i64 3),.val (.int .i64 2),.val (.int .i64 t)] (row 57 b)=numT 57 (dy b (t,())) (H0p o (H0q 3 2) (dy b (t,())).1 (dy b (t,())).2):=by kernel_rfl
theorem L2w:fnSum Tryz.prog {gam:=(255,D0j) :: (213,S 57 dy) :: gamN o,loud:=[255]} [] 20 246 [.ptr 0 0,.val (.int .i64 3),.val (.int .i64 3),.val (.int .i64 t)] (row 57 b)=numT 57 (dy b (t,())) (H0p o (H0q 3 3) (dy b (t,())).1 (dy b (t,())).2):=by kernel_rfl
theorem L2x:fnSum Tryz.prog {gam:=(255,D0j) :: (213,S 57 dy) :: gamN o,loud:=[255]} [] 20 246 [.ptr 0 0,.val (.int .i64 4),.val (.int .i64 0),.val (.int .i64 t)] (row 57 b)=numT 57 (dy b (t,())) (H0p o (H0q 4 0) (dy b (t,())).1 (dy b (t,())).2):=by kernel_rfl
theorem L2y:fnSum Tryz.prog {gam:=(255,D0j) :: (213,S 57 dy) :: gamN o,loud:=[255]} [] 20 246 [.ptr 0 0,.val (.int .i64 4),.val (.int .i64 1),.val (.int .i64 t)] (row 57 b)=numT 57 (dy b (t,())) (H0p o (H0q 4 1) (dy b (t,())).1 (dy b (t,())).2):=by kernel_rfl
theorem L2z:fnSum Tryz.prog {gam:=(255,D0j) :: (213,S 57 dy) :: gamN o,loud:=[255]} [] 20 246 [.ptr 0 0,.val (.int .i64 4),.val (.int .i64 2),.val (.int .i64 t)] (row 57 b)=numT 57 (dy b (t,())) (H0p o (H0q 4 2) (dy b (t,())).1 (dy b (t,())).2):=by kernel_rfl
theorem M2a:fnSum Tryz.prog {gam:=(255,D0j) :: (213,S 57 dy) :: gamN o,loud:=[255]} [] 20 246 [.ptr 0 0,.val (.int .i64 4),.val (.int .i64 3),.val (.int .i64 t)] (row 57 b)=numT 57 (dy b (t,())) (H0p o (H0q 4 3) (dy b (t,())).1 (dy b (t,())).2):=by kernel_rfl
theorem M2b:fnSum Tryz.prog {gam:=(255,D0j) :: (213,S 57 dy) :: gamN o,loud:=[255]} [] 20 246 [.ptr 0 0,.val (.int .i64 4),.val (.int .i64 4),.val (.int .i64 t)] (row 57 b)=numT 57 (dy b (t,())) (H0p o (H0q 4 4) (dy b (t,())).1 (dy b (t,())).2):=by kernel_rfl
theorem M2c:fnSum Tryz.prog {gam:=(255,D0j) :: (213,S 57 dy) :: gamN o,loud:=[255]} [] 20 246 [.ptr 0 0,.val (.int .i64 5),.val (.int .i64 0),.val (.int .i64 t)] (row 57 b)=numT 57 (dy b (t,())) (H0p o (H0q 5 0) (dy b (t,())).1 (dy b (t,())).2):=by kernel_rfl
theorem M2d:fnSum Tryz.prog {gam:=(255,D0j) :: (213,S 57 dy) :: gamN o,loud:=[255]} [] 20 246 [.ptr 0 0,.val (.int .i64 5),.val (.int .i64 1),.val (.int .i64 t)] (row 57 b)=numT 57 (dy b (t,())) (H0p o (H0q 5 1) (dy b (t,())).1 (dy b (t,())).2):=by kernel_rfl
theorem M2e:fnSum Tryz.prog {gam:=(255,D0j) :: (213,S 57 dy) :: gamN o,loud:=[255]} [] 20 246 [.ptr 0 0,.val (.int .i64 5),.val (.int .i64 2),.val (.int .i64 t)] (row 57 b)=numT 57 (dy b (t,())) (H0p o (H0q 5 2) (dy b (t,())).1 (dy b (t,())).2):=by kernel_rfl
theorem M2g:fnSum Tryz.prog {gam:=(255,D0j) :: (213,S 57 dy) :: gamN o,loud:=[255]} [] 20 246 [.ptr 0 0,.val (.int .i64 5),.val (.int .i64 3),.val (.int .i64 t)] (row 57 b)=numT 57 (dy b (t,())) (H0p o (H0q 5 3) (dy b (t,())).1 (dy b (t,())).2):=by kernel_rfl
theorem M2h:fnSum Tryz.prog {gam:=(255,D0j) :: (213,S 57 dy) :: gamN o,loud:=[255]} [] 20 246 [.ptr 0 0,.val (.int .i64 5),.val (.int .i64 4),.val (.int .i64 t)] (row 57 b)=numT 57 (dy b (t,())) (H0p o (H0q 5 4) (dy b (t,())).1 (dy b (t,())).2):=by kernel_rfl
theorem M2j:fnSum Tryz.prog {gam:=(255,D0j) :: (213,S 57 dy) :: gamN o,loud:=[255]} [] 20 246 [.ptr 0 0,.val (.int .i64 5),.val (.int .i64 5),.val (.int .i64 t)] (row 57 b)=numT 57 (dy b (t,())) (H0p o (H0q 5 5) (dy b (t,())).1 (dy b (t,())).2):=by kernel_rfl
theorem M2k:fnSum Tryz.prog {gam:=(255,D0j) :: (213,S 57 dy) :: gamN o,loud:=[255]} [] 20 246 [.ptr 0 0,.val (.int .i64 6),.val (.int .i64 0),.val (.int .i64 t)] (row 57 b)=numT 57 (dy b (t,())) (H0p o (H0q 6 0) (dy b (t,())).1 (dy b (t,())).2):=by kernel_rfl
theorem M2m:fnSum Tryz.prog {gam:=(255,D0j) :: (213,S 57 dy) :: gamN o,loud:=[255]} [] 20 246 [.ptr 0 0,.val (.int .i64 6),.val (.int .i64 1),.val (.int .i64 t)] (row 57 b)=numT 57 (dy b (t,())) (H0p o (H0q 6 1) (dy b (t,())).1 (dy b (t,())).2):=by kernel_rfl
theorem M2n:fnSum Tryz.prog {gam:=(255,D0j) :: (213,S 57 dy) :: gamN o,loud:=[255]} [] 20 246 [.ptr 0 0,.val (.int .i64 6),.val (.int .i64 2),.val (.int .i64 t)] (row 57 b)=numT 57 (dy b (t,())) (H0p o (H0q 6 2) (dy b (t,())).1 (dy b (t,())).2):=by kernel_rfl
theorem M2p:fnSum Tryz.prog {gam:=(255,D0j) :: (213,S 57 dy) :: gamN o,loud:=[255]} [] 20 246 [.ptr 0 0,.val (.int .i64 6),.val (.int .i64 3),.val (.int .i64 t)] (row 57 b)=numT 57 (dy b (t,())) (H0p o (H0q 6 3) (dy b (t,())).1 (dy b (t,())).2):=by kernel_rfl
theorem M2q:fnSum Tryz.prog {gam:=(255,D0j) :: (213,S 57 dy) :: gamN o,loud:=[255]} [] 20 246 [.ptr 0 0,.val (.int .i64 6),.val (.int .i64 4),.val (.int .i64 t)] (row 57 b)=numT 57 (dy b (t,())) (H0p o (H0q 6 4) (dy b (t,())).1 (dy b (t,())).2):=by kernel_rfl
theorem M2r:fnSum Tryz.prog {gam:=(255,D0j) :: (213,S 57 dy) :: gamN o,loud:=[255]} [] 20 246 [.ptr 0 0,.val (.int .i64 6),.val (.int .i64 5),.val (.int .i64 t)] (row 57 b)=numT 57 (dy b (t,())) (H0p o (H0q 6 5) (dy b (t,())).1 (dy b (t,())).2):=by kernel_rfl
theorem M2t:fnSum Tryz.prog {gam:=(255,D0j) :: (213,S 57 dy) :: gamN o,loud:=[255]} [] 20 246 [.ptr 0 0,.val (.int .i64 6),.val (.int .i64 6),.val (.int .i64 t)] (row 57 b)=numT 57 (dy b (t,())) (H0p o (H0q 6 6) (dy b (t,())).1 (dy b (t,())).2):=by kernel_rfl
end
theorem C0h(e:TypeId)(d:Int×Bool)(r:Two Int Int×Bool):numT e d r=some (.val (Cod.enc (bif d.2 then ((⟨0,0⟩:Two Int Int),d.2) else r).1),row e (bif d.2 then ((⟨0,0⟩:Two Int Int),d.2) else r).2):=by
 unfold numT
 cases d.2<;>rfl
theorem M2u{n m:Int}{t:Int}(h:Q1e (n,m,t,())=true):∃i j:Nat,n=i∧m=j∧1≤i∧i≤6∧j≤i:=by
 unfold Q1e at h
 split at h
 ·rename_i a b h1 h2
  simp only[Bool.and_eq_true,Nat.ble_eq]at h
  exact ⟨a,b,h1,h2,h.1,h.2.1,h.2.2⟩
 ·cases h
def numV:Bool→Int×Int×Int×Unit→Two Int Int×Bool:=numO opsF (E0r opsF)
theorem X2v:A0h Tryz.prog 246 (Sc 57 Q1e numV):=K0h (E:={gam:=(255,D0j) :: (213,S 57 (E0r opsF)) :: gamN opsF,loud:=[255]}) (.cons N3k (.cons ok38 A0u)) 20 fun b p hp=>by
 obtain ⟨n,m,t,u⟩:=p
 obtain ⟨i,j,rfl,rfl,h1,h2,h3⟩:=M2u hp
 match i,j,h1,h2,h3 with
 | 1,0,_,_,_=>exact (L2m opsF (E0r opsF) b t).trans (C0h ..)
 | 1,1,_,_,_=>exact (L2n opsF (E0r opsF) b t).trans (C0h ..)
 | 2,0,_,_,_=>exact (L2p opsF (E0r opsF) b t).trans (C0h ..)
 | 2,1,_,_,_=>exact (L2q opsF (E0r opsF) b t).trans (C0h ..)
 | 2,2,_,_,_=>exact (L2r opsF (E0r opsF) b t).trans (C0h ..)
 | 3,0,_,_,_=>exact (L2t opsF (E0r opsF) b t).trans (C0h ..)
 | 3,1,_,_,_=>exact (L2u opsF (E0r opsF) b t).trans (C0h ..)
 | 3,2,_,_,_=>exact (L2v opsF (E0r opsF) b t).trans (C0h ..)
 | 3,3,_,_,_=>exact (L2w opsF (E0r opsF) b t).trans (C0h ..)
 | 4,0,_,_,_=>exact (L2x opsF (E0r opsF) b t).trans (C0h ..)
 | 4,1,_,_,_=>exact (L2y opsF (E0r opsF) b t).trans (C0h ..)
 | 4,2,_,_,_=>exact (L2z opsF (E0r opsF) b t).trans (C0h ..)
 | 4,3,_,_,_=>exact (M2a opsF (E0r opsF) b t).trans (C0h ..)
 | 4,4,_,_,_=>exact (M2b opsF (E0r opsF) b t).trans (C0h ..)
 | 5,0,_,_,_=>exact (M2c opsF (E0r opsF) b t).trans (C0h ..)
 | 5,1,_,_,_=>exact (M2d opsF (E0r opsF) b t).trans (C0h ..)
 | 5,2,_,_,_=>exact (M2e opsF (E0r opsF) b t).trans (C0h ..)
 | 5,3,_,_,_=>exact (M2g opsF (E0r opsF) b t).trans (C0h ..)
 | 5,4,_,_,_=>exact (M2h opsF (E0r opsF) b t).trans (C0h ..)
 | 5,5,_,_,_=>exact (M2j opsF (E0r opsF) b t).trans (C0h ..)
 | 6,0,_,_,_=>exact (M2k opsF (E0r opsF) b t).trans (C0h ..)
 | 6,1,_,_,_=>exact (M2m opsF (E0r opsF) b t).trans (C0h ..)
 | 6,2,_,_,_=>exact (M2n opsF (E0r opsF) b t).trans (C0h ..)
 | 6,3,_,_,_=>exact (M2p opsF (E0r opsF) b t).trans (C0h ..)
 | 6,4,_,_,_=>exact (M2q opsF (E0r opsF) b t).trans (C0h ..)
 | 6,5,_,_,_=>exact (M2r opsF (E0r opsF) b t).trans (C0h ..)
 | 6,6,_,_,_=>exact (M2t opsF (E0r opsF) b t).trans (C0h ..)
 | 0,_,h1,_,_=>omega
 | 1,k+2,_,_,h3=>omega
 | 2,k+3,_,_,h3=>omega
 | 3,k+4,_,_,h3=>omega
 | 4,k+5,_,_,h3=>omega
 | 5,k+6,_,_,h3=>omega
 | 6,k+7,_,_,h3=>omega
 | k+7,_,_,h2,_=>omega
end Go.Ab
